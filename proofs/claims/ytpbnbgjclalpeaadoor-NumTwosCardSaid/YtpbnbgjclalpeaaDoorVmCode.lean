/- VM: its runs are the model's: control and calls. -/
import Derived.Test.YtpbnbgjclalpeaaDoorVmRun
import Derived.Scope
set_option linter.unusedVariables false
set_option linter.unusedSimpArgs false
namespace Go.Vm
open Go.RowKit

/-! ### loops, told from their turn on -/
def wpL (P : Program) (c : Code) (Q : Post) (a : Go.Act) (w : World) : Prop :=
  ∀ (b : Frame) (k : List Item) (cs : List Frame), ∃ e a' w', Q e a' w' ∧ Arrives P (lone (b.at a (.code c :: .inLoop c :: k)) cs w) b k cs e a' w'
theorem wpL_turn {P : Program} {c : Code} {Q : Post} {a : Go.Act} {w : World} (h : c.wp P (Exit.then (wpL P c Q) Q) a w) : wpL P c Q a w := by
  intro b k cs
  obtain ⟨e, a₁, w₁, hq, harr⟩ := h b (.inLoop c :: k) cs
  cases e with
  | normal =>
    obtain ⟨e₂, a₂, w₂, hq₂, harr₂⟩ := hq b k cs
    exact ⟨e₂, a₂, w₂, hq₂, .of_steps (Steps.trans harr (.one step_inLoop)) harr₂⟩
  | exit id => exact ⟨_, a₁, w₁, hq, .pass (x := .inLoop c) rfl (fun _ _ => .inl (by simp)) harr⟩
  | goto l => exact ⟨_, a₁, w₁, hq, .pass (x := .inLoop c) rfl (fun _ _ => .inl (by simp)) harr⟩
  | ret => exact ⟨_, a₁, w₁, hq, .pass (x := .inLoop c) rfl (fun _ _ => .inl (by simp)) harr⟩
  | panic ch => exact ⟨_, a₁, w₁, hq, .pass (x := .inLoop c) rfl (fun _ _ => .inl (by simp)) harr⟩
  | outgrown => exact ⟨_, a₁, w₁, hq, .pass (x := .inLoop c) rfl (fun _ _ => .inl (by simp)) harr⟩
theorem wp_of_wpL {P : Program} {c : Code} {Q : Post} {a : Go.Act} {w : World} (h : wpL P c Q a w) : (Code.loop c).wp P Q a w := by
  intro b k cs
  obtain ⟨e, a₁, w₁, hq, harr⟩ := h b k cs
  exact ⟨e, a₁, w₁, hq, .of_steps (.one step_loop) harr⟩
def wpC (P : Program) (c : Code) (Q : Post) (a : Go.Act) (w : World) : Prop := match c with
  | .loop b => wpL P b Q a w
  | c => c.wp P Q a w
theorem wpC.wp {P : Program} {c : Code} {Q : Post} {a : Go.Act} {w : World} (h : wpC P c Q a w) : c.wp P Q a w := by
  cases c <;> first
    | exact h
    | exact wp_of_wpL h

section
variable {env : Nat → Int} {n0 : Nat} {P : Program} {cx : Cx}
/-- What is known of a call without arguments: it comes to a truth value, and turns nothing that was there. -/
def SumOk (P : Program) (f : FuncId) (b : Bool) : Prop :=
  (∃ fn c, P.funcs[f]? = some fn ∧ fn.body = some c ∧ fn.name ≠ "runtime.NumGoroutine") ∧ ∀ w : World, Calls P f #[] w fun e w' => e = .returned (.bool b) ∧ Below w.heap.size w w'
/-- The table of functions is the program's. -/
def FuOk (P : Program) (chk : List Oper → Bool) (cx : Cx) : Prop := ∀ f fu, cx.fu.get f = some fu →
  (∃ fn c, P.funcs[f]? = some fn ∧ fn.body = some c ∧ fn.name ≠ "runtime.NumGoroutine" ∧ fu = .mk fn.ntmps fn.results.toList c ∧ okCode chk fn.ntmps c = true) ∨ ∃ b, fu = .const b ∧ SumOk P f b
theorem Rel.below {M : Mp} {h : Tr Ob} {w w' : World} (r : Rel env n0 M h w) (b : Below w.heap.size w w') : Rel env n0 M h w' := by
  refine ⟨r.dom, fun k ob hk => ?_, r.inj, Nat.le_trans r.size b.size⟩
  obtain ⟨pl, h1, h2, h3, h4, h5⟩ := r.row k ob hk
  exact ⟨pl, h1, h2.mono M.le_refl fun _ => b.block _ h5, h3, h4, Nat.lt_of_lt_of_le h5 b.size⟩
def CodeOk (env : Nat → Int) (n0 : Nat) (P : Program) (chk : List Oper → Bool) (ev : EvT) : Prop :=
  ∀ c M h nx lg t w a res (Q : Post), okCode chk a.tmps.size c = true → At env n0 M h nx t w a → ev c t (.mk h nx lg) = res → PostR env n0 M a w Q res → wpC P c Q a w
def DrawOk (env : Nat → Int) (n0 : Nat) (P : Program) (chk : List Oper → Bool) (cx : Cx) (call : CallT) : Prop :=
  ∀ id (ops : Array Oper) M h nx lg t w a res (Q : Post), okOps a.tmps.size ops.toList = true → chk ops.toList = true → At env n0 M h nx t w a → evReg true call cx ops.toList t (.mk h nx lg) = res → PostR env n0 M a w Q res →
    (Code.region id ops true).wp P Q a w
theorem band {a b : Bool} (h : (a && b) = true) : a = true ∧ b = true := and_true h
theorem PostR.then {M : Mp} {a : Go.Act} {w : World} {Q : Post} {K : Go.Act → World → Prop} {r : R} {k : Tm → St → R} (h : PostR env n0 M a w Q (seqK k r))
    (hk : ∀ t h' nx lg, ∀ M' a' w', At env n0 M' h' nx t w' a' → Bhd n0 M M' a a' w w' → PostR env n0 M' a' w' Q (k t (.mk h' nx lg)) → K a' w') : PostR env n0 M a w (Exit.then K Q) r := by
  cases r with
  | bad => exact h
  | nm t σ =>
    cases σ with
    | mk h' nx lg =>
      intro M' a' w' s b
      exact hk t h' nx lg M' a' w' s b (PostR.later (r := k t (.mk h' nx lg)) h b)
  | ex n t σ => exact h
  | rt t σ => exact h
theorem blockK_post {M : Mp} {a : Go.Act} {w : World} {Q : Post} {id : Nat} {r : R} (h : PostR env n0 M a w Q (blockK id r)) : PostR env n0 M a w (Exit.inBlock id Q) r := by
  cases r with
  | bad => exact h
  | nm t σ => exact h
  | rt t σ => exact h
  | ex n t σ =>
    replace h : PostR env n0 M a w Q (Bool.rec (.ex n t σ) (.nm t σ) (Nat.beq n id)) := h
    cases hb : Nat.beq n id with
    | true =>
      rw [hb] at h
      have := Nat.eq_of_beq_eq_true hb
      subst this
      show PostK env n0 M a w (Exit.inBlock n Q (.exit n)) t σ
      have e : Exit.inBlock n Q (.exit n) = Q .normal := by funext a w; simp [Exit.inBlock]
      rw [e]; exact h
    | false =>
      rw [hb] at h
      rw [RL.beq_dec] at hb
      have hne := of_decide_eq_false hb
      show PostK env n0 M a w (Exit.inBlock id Q (.exit n)) t σ
      have e : Exit.inBlock id Q (.exit n) = Q (.exit n) := by funext a w; simp [Exit.inBlock, hne]
      rw [e]; exact h
theorem code_snd (hT : TabOk P cx) (hp : PcOk env cx.pc) {chk : List Oper → Bool} {ev : EvT} (ih : CodeOk env n0 P chk ev) (hc : CallOk env n0 P (callOf ev cx)) (hdr : DrawOk env n0 P chk cx (callOf ev cx)) :
    CodeOk env n0 P chk (fun c => evC c ev cx) := by
  intro c M h nx lg t w a res Q hok s hres hpost
  subst hres
  cases c with
  | skip => exact wp_skip (hpost M a w s (Bhd.refl _ _ _))
  | region id ops draw =>
    obtain ⟨h1, h2⟩ := band hok
    cases draw with
    | false =>
      refine wp_region ?_
      rw [List.range_eq_range']
      have := ops_snd hT hp hc ops ops.toList 0 M h nx lg t w a _ rfl h1 s rfl hpost
      rwa [Array.length_toList] at this
    | true => exact hdr id ops M h nx lg t w a _ Q h1 (by simpa using h2) s rfl hpost
  | seq x y =>
    obtain ⟨h1, h2⟩ := band hok
    refine wp_seq (wpC.wp (ih x M h nx lg t w a _ _ h1 s rfl (PostR.then hpost fun t' h' nx' lg' M' a' w' s' b hp' => ?_)))
    exact wpC.wp (ih y M' h' nx' lg' t' w' a' _ Q (by rw [b.sz]; exact h2) s' rfl hp')
  | cond c x y =>
    obtain ⟨h1, h2⟩ := band hok
    have hpost : PostR env n0 M a w Q (condV (Tm.ev c t) cx (ev x t (.mk h nx lg)) (ev y t (.mk h nx lg))) := hpost
    cases hc' : Tm.ev c t with
    | none => rw [hc'] at hpost; exact hpost.elim
    | some v =>
      rw [hc'] at hpost
      have hv := ev_ok s.tm hc'
      generalize hx : a.eval c = x' at hv
      cases hv with
      | b e =>
        have hpost : PostR env n0 M a w Q (condD (cx.dec e) (ev x t (.mk h nx lg)) (ev y t (.mk h nx lg))) := hpost
        cases hd : cx.dec e with
        | none => rw [hd] at hpost; exact hpost.elim
        | some b =>
          rw [hd] at hpost
          rw [dec_ok hp hd] at hx
          cases b with
          | true => exact wp_cond_true hx (wpC.wp (ih x M h nx lg t w a _ Q h1 s rfl hpost))
          | false => exact wp_cond_false hx (wpC.wp (ih y M h nx lg t w a _ Q h2 s rfl hpost))
      | _ => exact hpost.elim
  | block id b => exact wp_block (wpC.wp (ih b M h nx lg t w a _ _ hok s rfl (blockK_post hpost)))
  | loop b =>
    refine wpL_turn (wpC.wp (ih b M h nx lg t w a _ _ hok s rfl (PostR.then hpost fun t' h' nx' lg' M' a' w' s' bb hp' => ?_)))
    exact ih (.loop b) M' h' nx' lg' t' w' a' _ Q (by rw [bb.sz]; exact hok) s' rfl hp'
  | exit m => exact wp_exit (hpost M a w s (Bhd.refl _ _ _))
  | scope b =>
    refine wp_scope_straight (wpC.wp (ih b M h nx lg t w a _ _ hok s rfl ?_))
    have hpost : PostR env n0 M a w Q (ev b t (.mk h nx lg)) := hpost
    revert hpost
    cases ev b t (.mk h nx lg) <;> exact fun h => h
  | ret => exact wp_ret (hpost M a w s (Bhd.refl _ _ _))
  | _ => exact hpost.elim
/-! ### calls -/
theorem argsTm_get (l : List V) : ∀ (n : Nat) (t : Tm) (i : Nat), (argsTm l n t).get i = if n ≤ i ∧ i < n + l.length then l[i - n]? else t.get i := by
  induction l with
  | nil => intro n t i; rw [if_neg (fun e => by have := e.2; simp only [List.length_nil] at this; omega)]; rfl
  | cons v l ih =>
    intro n t i
    show (argsTm l (n + 1) (t.set n v)).get i = _
    rw [ih, Tr.get_set, List.length_cons]
    by_cases h1 : n + 1 ≤ i ∧ i < n + 1 + l.length
    · rw [if_pos h1, if_pos (by omega), show i - n = (i - (n + 1)) + 1 by omega]
      rfl
    · rw [if_neg h1]
      by_cases h2 : i = n
      · subst h2
        rw [if_pos rfl, if_pos (by omega)]
        simp
      · rw [if_neg h2, if_neg (by omega)]
theorem args_tm {M : Mp} {args : List V} {args' : Array Value} (h : VRs env M args args'.toList) (n : Nat) : TmR env M (argsTm args 0 .nil) (args' ++ Array.replicate (n - args'.size) undef) := by
  intro i
  have hl : args.length = args'.size := by have := h.length; simpa using this
  rw [argsTm_get, Array.getD_eq_getD_getElem?]
  by_cases hi : i < args.length
  · rw [if_pos (by omega)]
    obtain ⟨x, x1, x2⟩ := h.get i _ (List.getElem?_eq_getElem hi)
    have x1' : args'[i]? = some x := by simpa using x1
    rw [Array.getElem?_append_left (by omega), x1', Nat.sub_zero, List.getElem?_eq_getElem hi]
    exact x2
  · rw [if_neg (by omega), Array.getElem?_append_right (by omega), Array.getElem?_replicate]
    split
    · exact undef_ok
    · exact undef_ok
theorem okDst_mono {n m : Nat} (h : n ≤ m) {d : Option Tmp} (e : okDst n d = true) : okDst m d = true := by
  cases d with
  | none => rfl
  | some k =>
    have := dst_lt e k rfl
    have h2 : k + 1 ≤ m := Nat.le_trans this h
    exact Nat.ble_eq_true_of_le h2
theorem okOps_mono {n m : Nat} (h : n ≤ m) : ∀ (l : List Oper), okOps n l = true → okOps m l = true
  | [], _ => rfl
  | o :: l, e => by
    obtain ⟨h1, h2⟩ := okOps_cons e
    show (Bool.rec false (okOps m l) (okDst m o.dst) : Bool) = true
    rw [okDst_mono h h1]
    exact okOps_mono h l h2
theorem okCode_mono {chk : List Oper → Bool} {n m : Nat} (h : n ≤ m) : ∀ (c : Code), okCode chk n c = true → okCode chk m c = true
  | .region _ ops draw, e => by
    obtain ⟨h1, h2⟩ := band e
    show (okOps m ops.toList && _) = true
    rw [okOps_mono h _ h1]
    exact h2
  | .seq a b, e => by
    obtain ⟨h1, h2⟩ := band e
    show (okCode chk m a && okCode chk m b) = true
    rw [okCode_mono h a h1, okCode_mono h b h2]; rfl
  | .cond _ a b, e => by
    obtain ⟨h1, h2⟩ := band e
    show (okCode chk m a && okCode chk m b) = true
    rw [okCode_mono h a h1, okCode_mono h b h2]; rfl
  | .block _ b, e => okCode_mono h b e
  | .loop b, e => okCode_mono h b e
  | .scope b, e => okCode_mono h b e
  | .skip, _ => rfl
  | .exit _, _ => rfl
  | .ret, _ => rfl
  | .rangeFunc .., _ => rfl
  | .label _, _ => rfl
  | .goto _, _ => rfl
  | .refuse _, _ => rfl
theorem call_snd (hT : TabOk P cx) {chk : List Oper → Bool} (hF : FuOk P chk cx) {ev : EvT} (ih : CodeOk env n0 P chk ev) : CallOk env n0 P (callOf ev cx) := by
  intro f args h nx lg v h' nx' lg' hres M w args' r hn hargs
  have hres : callFu ev cx args (.mk h nx lg) (cx.fu.get f) = .ok v (.mk h' nx' lg') := hres
  cases hfu : cx.fu.get f with
  | none => rw [hfu] at hres; cases hres
  | some fu =>
    rw [hfu] at hres
    rcases hF f fu hfu with ⟨fn, c, f1, f2, f3, f4, f5⟩ | ⟨b, f4, f5, f6⟩
    case inr =>
      subst f4
      refine ⟨f5, ?_⟩
      have hres : (List.rec (.ok (.b (.c b)) (.mk h nx lg)) (fun _ _ _ => .bad) args : Rs V) = .ok v (.mk h' nx' lg') := hres
      cases args with
      | cons x l => cases hres
      | nil =>
        cases hres
        have ha : args' = #[] := by
          have := hargs.length
          exact Array.eq_empty_of_size_eq_zero (by simpa using this.symm)
        subst ha
        refine (f6 w).mono fun e w' ⟨he, hb⟩ => ?_
        subst he
        exact ⟨M, M.le_refl, r.below hb, .b (.c b), hb.mono r.size, hn⟩
    subst f4
    refine ⟨⟨fn, c, f1, f2, f3⟩, ?_⟩
    have hres : retOf cx fn.results.toList (ev c (argsTm args 0 .nil) (.mk h nx lg)) = .ok v (.mk h' nx' lg') := hres
    refine calls_of_wp f1 f2 (wpC.wp (ih c M h nx lg (argsTm args 0 .nil) w _ _ _ ?_ ⟨r, args_tm hargs fn.ntmps, hn⟩ rfl ?_))
    · refine okCode_mono ?_ c f5
      simp only [Array.size_append, Array.size_replicate]; omega
    · generalize ev c (argsTm args 0 .nil) (.mk h nx lg) = rr at hres
      have fin : ∀ t σ, packR (loadRes cx t fn.results.toList [] σ) = .ok v (.mk h' nx' lg') → ∀ (K : Go.Act → World → Prop), (∀ a w', (a.defers = [] ∧ ∃ x, (results fn a.tmps).run P w' = .ok x w' ∧ ∃ M', M.le M' ∧ Rel env n0 M' h' w' ∧ VR env M' v x ∧ Below n0 w w' ∧ RO ≤ nx') → K a w') →
          PostK env n0 M ⟨args' ++ Array.replicate (fn.ntmps - args'.size) undef, []⟩ w K t σ := by
        intro t σ hl K hK
        cases σ with
        | mk h1 nx1 lg1 =>
          intro M' a' w' s b
          obtain ⟨q1, q2, x, q3, q4⟩ := results_ok hT s.rel s.tm fn s.ro hl
          subst q1 q2
          exact hK a' w' ⟨b.dfr, x, q3, M', b.le, s.rel, q4, b.bel, s.ro⟩
      cases rr with
      | bad => cases hres
      | nm t σ => exact fin t σ hres _ fun a w' hh => hh
      | ex n t σ => cases hres
      | rt t σ => exact fin t σ hres _ fun a w' hh => hh
theorem ev_snd (hT : TabOk P cx) (hp : PcOk env cx.pc) {chk : List Oper → Bool} (hF : FuOk P chk cx) (hdr : ∀ n, CallOk env n0 P (callOf (ev cx n) cx) → DrawOk env n0 P chk cx (callOf (ev cx n) cx)) : ∀ n, CodeOk env n0 P chk (ev cx n)
  | 0 => fun c M h nx lg t w a res Q _ _ hres hpost => by subst hres; exact hpost.elim
  | n + 1 => by
    have ih := ev_snd hT hp hF hdr n
    have hc := call_snd hT hF ih
    exact code_snd hT hp ih hc (hdr n hc)
end
end Go.Vm
