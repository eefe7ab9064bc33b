/- VM: its operations are the model's, one by one (tenth part): lengths, maps. -/
import Derived.Test.YtpbnbgjclalpeaaDoorVmOpI
set_option linter.unusedVariables false
set_option linter.unusedSimpArgs false
namespace Go.Vm
open Go.RowKit
section ops
variable {env : Nat → Int} {n0 : Nat} {P : Program} {M : Mp} {h : Tr Ob} {w : World} {cx : Cx}

theorem getObj_run {b : Nat} {o : Obj} (hb : w.heap[b]? = some o) (hc : ∀ c e f, o ≠ .cells c e f) : (getObj b).run P w = .ok o w := by
  show Sem.run P (.getObj b .pure) w = _
  simp only [Sem.run, hb]
theorem Rel.map_at (r : Rel env n0 M h w) {b : Nat} {es : List (V × V)} (e : h.get b = some (.map es)) : ∃ pl ms clock, M b = some pl ∧ w.heap[pl.blk]? = some (.map ms clock) ∧
    VRs env M (es.map (·.1)) (ms.toList.map (·.key)) ∧ VRs env M (es.map (·.2)) (ms.toList.map (·.val)) ∧ (RO ≤ b → n0 ≤ pl.blk) := by
  obtain ⟨pl, h1, h2, h3, _, _⟩ := r.row b _ e
  cases h2 with
  | map es ms clock a1 a2 a3 => exact ⟨pl, ms, clock, h1, a1, a2, a3, fun hb => (h3 hb).1⟩
theorem len_snd (hT : TabOk P cx) (r : Rel env n0 M h w) {v : V} {x : Value} (hv : VR env M v x) {tys : Array TypeId} {t : TypeId} {rest : List TypeId} (hty : tys.toList = t :: rest) (ty : TypeId) :
    SndV env n0 P M h w (vlen (tk cx t) v) (Builtin.len_ tys ty #[x]) := by
  have h0 : tys[0]? = some t := by rw [← Array.getElem?_toList, hty]; rfl
  have hk := tk_ok hT t
  cases hkk : tk cx t with
  | slice e =>
    rw [hkk] at hk
    have hu : P.underlying t = some (.slice e) := hk
    cases hv with
    | sn l c => exact Snd.ret r (by simp only [Builtin.len_, h0, List.getElem?_toArray, List.getElem?_cons_zero, Sem.run_bind, run_und hu, Result.andThen_ok, Sem.run_pure]; rfl) (VR.i .i64 (.c (.ofNat l)))
    | sl b o l c c' => exact Snd.ret r (by simp only [Builtin.len_, h0, List.getElem?_toArray, List.getElem?_cons_zero, Sem.run_bind, run_und hu, Result.andThen_ok, Sem.run_pure]; rfl) (VR.i .i64 (.c (.ofNat l)))
    | _ => exact Snd.bad
  | string =>
    rw [hkk] at hk
    have hu : P.underlying t = some .string := hk
    cases hv with
    | s rr s h1 h2 => exact Snd.ret r (x := goInt s.size) (by simp only [Builtin.len_, h0, List.getElem?_toArray, List.getElem?_cons_zero, Sem.run_bind, run_und hu, Result.andThen_ok, Sem.run_pure]) (VR.i' (by show ((rr.len : Nat) : Int) = _; rw [RL.len_eq, ← str_size h1]))
    | _ => exact Snd.bad
  | array n e =>
    rw [hkk] at hk
    have hu : P.underlying t = some (.array n e) := hk
    exact Snd.ret r (x := goInt n) (by simp only [Builtin.len_, h0, List.getElem?_toArray, List.getElem?_cons_zero, Sem.run_bind, run_und hu, Result.andThen_ok, Sem.run_pure]) (VR.i .i64 (.c (.ofNat n)))
  | map mk me =>
    rw [hkk] at hk
    have hu : P.underlying t = some (.map mk me) := hk
    cases hv with
    | mn => exact Snd.ret r (x := goInt 0) (by simp only [Builtin.len_, h0, List.getElem?_toArray, List.getElem?_cons_zero, Sem.run_bind, run_und hu, Result.andThen_ok, Sem.run_pure]) (VR.i .i64 (.c (.ofNat 0)))
    | m b pl hM =>
      intro nx lg a h' nx' lg' hn er
      obtain ⟨es, g1, g2⟩ := run_getM er
      obtain ⟨e4, e5⟩ := run_ret g2
      cases e5; subst e4
      obtain ⟨pl', ms, clock, m1, m2, m3, m4, m5⟩ := r.map_at g1
      rw [hM] at m1; cases m1
      refine ⟨M, w, goInt ms.size, ?_, M.le_refl, r, VR.i' ?_, Below.refl _ _, hn⟩
      · simp only [Builtin.len_, h0, List.getElem?_toArray, List.getElem?_cons_zero, Sem.run_bind, run_und hu, Result.andThen_ok, getObj_run m2 (by simp), Sem.run_pure]
      · have := m3.length
        simp only [List.length_map, Array.length_toList] at this
        show ((es.length : Nat) : Int) = _
        rw [this]
    | _ => exact Snd.bad
  | _ => exact Snd.bad
theorem cap_snd (hT : TabOk P cx) (r : Rel env n0 M h w) {v : V} {x : Value} (hv : VR env M v x) {tys : Array TypeId} {t : TypeId} {rest : List TypeId} (hty : tys.toList = t :: rest) (ty : TypeId) :
    SndV env n0 P M h w (vcap (tk cx t) cx v) (Builtin.cap_ tys ty #[x]) := by
  have h0 : tys[0]? = some t := by rw [← Array.getElem?_toList, hty]; rfl
  have hk := tk_ok hT t
  cases hkk : tk cx t with
  | slice e =>
    rw [hkk] at hk
    have hu : P.underlying t = some (.slice e) := hk
    show SndV env n0 P M h w (capSl v (tsize cx e)) _
    cases hv with
    | sn l c => exact Snd.ret r (by simp only [Builtin.cap_, h0, List.getElem?_toArray, List.getElem?_cons_zero, Sem.run_bind, run_und hu, Result.andThen_ok, Sem.run_pure]; rfl) (VR.i .i64 (.c (.ofNat c)))
    | sl b o l c c' pl a hM h1 h2 h3 h4 =>
      cases hts : tsize cx e with
      | none => exact Snd.bad
      | some n =>
        intro nx lg a' h' nx' lg' hn er
        obtain ⟨el, es, ex, cs, g1, g2⟩ := run_info' er
        have g2' : ((match (Nat.beq n es && Nat.ble 1 n) && (ex && Nat.beq (o + c * n) cs.toList.length) with | true => .ret (ofNatI c) | false => .bad 70 : Pr V)).run h nx (lg.rd b) = .ok a' (.mk h' nx' lg') := g2
        cases hb : ((Nat.beq n es && Nat.ble 1 n) && (ex && Nat.beq (o + c * n) cs.toList.length)) with
        | false => rw [hb] at g2'; exact (run_bad g2').elim
        | true =>
          rw [hb] at g2'
          obtain ⟨e4, e5⟩ := run_ret g2'
          cases e5; subst e4
          obtain ⟨b1, b2⟩ := and_true hb
          obtain ⟨b3, b4⟩ := and_true b1
          obtain ⟨b5, b6⟩ := and_true b2
          have b3 : n = es := Nat.eq_of_beq_eq_true b3
          have b4 : 1 ≤ n := Nat.le_of_ble_eq_true b4
          have b6 : o + c * n = cs.toList.length := Nat.eq_of_beq_eq_true b6
          obtain ⟨pl', c2, el', fz, m1, m2, m3, m4, m5⟩ := r.live g1
          rw [hM] at m1; cases m1
          have hf := m3.full b5
          have hcc : c' = c := by
            have : c' * n ≤ c * n := by rw [m2, ← b3] at h2; omega
            have := Nat.le_of_mul_le_mul_right this (by omega)
            omega
          subst hcc
          refine ⟨M, w, goInt c', ?_, M.le_refl, r, VR.i .i64 (.c (.ofNat c')), Below.refl _ _, hn⟩
          simp only [Builtin.cap_, h0, List.getElem?_toArray, List.getElem?_cons_zero, Sem.run_bind, run_und hu, Result.andThen_ok, Sem.run_pure]
    | _ => exact Snd.bad
  | _ => exact Snd.bad

/-! ### maps -/
theorem clear_snd (hT : TabOk P cx) (r : Rel env n0 M h w) {v : V} {x : Value} (hv : VR env M v x) {tys : Array TypeId} {t : TypeId} {rest : List TypeId} (hty : tys.toList = t :: rest) (ty : TypeId) :
    SndV env n0 P M h w (vclear (tk cx t) cx v) (Builtin.clear_ tys ty #[x]) := by
  have h0 : tys[0]? = some t := by rw [← Array.getElem?_toList, hty]; rfl
  have hk := tk_ok hT t
  cases hkk : tk cx t with
  | slice e =>
    rw [hkk] at hk
    have hu : P.underlying t = some (.slice e) := hk
    show SndV env n0 P M h w (clrSl v cx e) _
    cases hv with
    | sn l c => exact Snd.ret r (by simp only [Builtin.clear_, h0, List.getElem?_toArray, List.getElem?_cons_zero, Sem.run_bind, run_und hu, Result.andThen_ok, Sem.run_pure]) (.tup [] #[] .nil)
    | sl b o l c c' pl a hM h1 h2 h3 h4 =>
      show SndV env n0 P M h w (clrN (tiZero (cx.ty.get e)) b o l) _
      cases l with
      | zero => exact Snd.ret r (by simp only [Builtin.clear_, h0, List.getElem?_toArray, List.getElem?_cons_zero, Sem.run_bind, run_und hu, Result.andThen_ok, Sem.run_pure]) (.tup [] #[] .nil)
      | succ n =>
        show SndV env n0 P M h w (clrS (tiZero (cx.ty.get e)) b o (n + 1)) _
        cases ht : cx.ty.get e with
        | none => exact Snd.bad
        | some ti =>
          show SndV env n0 P M h w (clrS ti.zero b o (n + 1)) _
          cases hz : ti.zero with
          | none => exact Snd.bad
          | some z =>
            obtain ⟨zx, hzr, hzv⟩ := (hT e ti ht).run_zero (w := w) hz
            intro nx lg ar h' nx' lg' hn er
            obtain ⟨el, es, ex, cs, g1, g2, g3, g4, g5⟩ := run_sets er
            obtain ⟨e4, e5⟩ := run_ret g5
            cases e5; subst e4
            obtain ⟨w', s1, s2, s3⟩ := sets_write (P := P) r g1 hM g2 g3 g4 (rep_zeros (hzv env M) (n + 1))
            refine ⟨M, w', .tuple #[], ?_, M.le_refl, s2, .tup [] #[] .nil, s3, hn⟩
            have ea : a = ⟨pl.blk, pl.off + o, none⟩ := by
              rcases h3 with e0 | e0
              · exact e0
              · omega
            subst ea
            have hl : (Builtin.clear_ tys ty #[.slice (some ⟨pl.blk, pl.off + o, none⟩) (n + 1) c']).run P w = ((storeCells ⟨pl.blk, pl.off + o, none⟩ (Builtin.zeroCells zx.cells (n + 1)).toList).run P w).andThen fun _ w' => .ok (.tuple #[]) w' := by
              simp only [Builtin.clear_, h0, List.getElem?_toArray, List.getElem?_cons_zero, Sem.run_bind, run_und hu, Result.andThen_ok, hzr, Sem.run_pure]
            rw [hl, s1, Result.andThen_ok]
    | _ => exact Snd.bad
  | _ => exact Snd.bad
theorem keyEq_ok {k x : V} {k' x' : Value} (hk : VR env M k k') (hx : VR env M x x') {b : Bool} (e : keyEq k x = some (.c b)) {t : TK} (hf : keyFits t k = true) {d : TypeDesc} {ty : TypeId} (hd : P.underlying ty = some d) (hKO : KOk P ty t) :
    Instr.sameNow d k' x' = some b ∧ (b = true → Instr.sameBits 10000 x' k' = true) := by
  cases t with
  | int kk =>
    have hd' : P.underlying ty = some (.int kk) := hKO
    rw [hd] at hd'; cases hd'
    cases hk with
    | i l a =>
      cases hx with
      | i m c =>
        replace e : (match keq l m with | true => some (mkEq a c) | false => none) = some (.c b) := e
        cases hkq : keq l m with
        | false => rw [hkq] at e; cases e
        | true =>
          rw [hkq] at e
          have := (keq_eq l m).1 hkq
          subst this
          replace e := Option.some.inj e
          have hden := mkEq_den env a c
          rw [e] at hden
          have hden : b = (a.den env == c.den env) := hden
          refine ⟨?_, ?_⟩
          · simp [Instr.sameNow, hden]
          · intro hb
            rw [hb] at hden
            have : a.den env = c.den env := by simpa using hden.symm
            rw [this]
            show (l == l && c.den env == c.den env) = true
            simp
      | _ => cases e
    | _ => cases hf
  | string =>
    have hd' : P.underlying ty = some .string := hKO
    rw [hd] at hd'; cases hd'
    cases hk with
    | s a s h1 h2 =>
      cases hx with
      | s c u k1 k2 =>
        replace e : some (.c (sameStr a c)) = some (BE.c b) := e
        cases e
        have hs := sameStr_str h1 h2 k1 k2
        rw [← beq_toListBytes] at hs
        refine ⟨?_, ?_⟩
        · simp [Instr.sameNow, hs]
        · intro hb
          rw [hs, beq_toListBytes] at hb
          have : s.toList = u.toList := by simpa using hb
          show (u == s) = true
          rw [beq_toListBytes, this]; simp
      | _ => cases e
    | _ => cases hf
  | _ => cases hf
theorem findM_ok {k : V} {k' : Value} (hk : VR env M k k') {t : TK} (hf : keyFits t k = true) {d : TypeDesc} {ty : TypeId} (hd : P.underlying ty = some d) (hKO : KOk P ty t) :
    ∀ (es : List (V × V)) (ms : List MapEntry) (i : Nat) (res : Option (Nat × V)), VRs env M (es.map (·.1)) (ms.map (·.key)) → VRs env M (es.map (·.2)) (ms.map (·.val)) → findM k es i = some res →
      match res with
      | none => Instr.findNow d k' ms i = some none
      | some (j, v) => ∃ x, Instr.findNow d k' ms i = some (some (j, x)) ∧ VR env M v x ∧ i ≤ j ∧ ∃ m, ms[j - i]? = some m ∧ Instr.sameBits 10000 m.key k' = true
  | [], [], i, res, _, _, e => by cases e; rfl
  | [], _ :: _, _, _, h1, _, _ => by cases h1
  | _ :: _, [], _, _, h1, _, _ => by cases h1
  | (kx, v) :: es, m :: ms, i, res, h1, h2, e => by
    cases h1 with
    | cons _ _ _ _ h1a h1b =>
      cases h2 with
      | cons _ _ _ _ h2a h2b =>
        simp only [findM] at e
        cases hq : keyEq k kx with
        | none => rw [hq] at e; cases e
        | some be =>
          rw [hq] at e
          match be, hq, e with
          | .c true, hq, e =>
            cases e
            obtain ⟨s1, s2⟩ := keyEq_ok hk h1a hq hf hd hKO
            refine ⟨m.val, ?_, h2a, Nat.le_refl _, m, by simp, s2 rfl⟩
            simp only [Instr.findNow, s1]
          | .c false, hq, e =>
            obtain ⟨s1, s2⟩ := keyEq_ok hk h1a hq hf hd hKO
            have ih := findM_ok hk hf hd hKO es ms (i + 1) res h1b h2b e
            have hfn : Instr.findNow d k' (m :: ms) i = Instr.findNow d k' ms (i + 1) := by simp only [Instr.findNow, s1]
            match res, ih with
            | none, ih => rw [hfn]; exact ih
            | some (j, v), ih =>
              obtain ⟨x, i1, i2, i3, m', i4, i5⟩ := ih
              refine ⟨x, by rw [hfn]; exact i1, i2, by omega, m', ?_, i5⟩
              rw [show j - i = (j - (i + 1)) + 1 by omega]
              exact i4
          | .lt _ _, _, e => cases e
          | .le _ _, _, e => cases e
          | .eq _ _, _, e => cases e
          | .not _, _, e => cases e
theorem checkKey_run (empty : Bool) {k : V} {k' : Value} (hk : VR env M k k') {t : TK} (hf : keyFits t k = true) {ty : TypeId} (hKO : KOk P ty t) (n : Nat) : (Instr.checkKey empty (n + 1) ty k').run P w = .ok () w := by
  cases t with
  | int kk =>
    have hd' : P.underlying ty = some (.int kk) := hKO
    simp only [Instr.checkKey, Sem.run_bind, run_und hd', Result.andThen_ok]; rfl
  | string =>
    have hd' : P.underlying ty = some .string := hKO
    simp only [Instr.checkKey, Sem.run_bind, run_und hd', Result.andThen_ok]; rfl
  | _ => cases hf
theorem keyFits_und {k : V} {t : TK} (hf : keyFits t k = true) {ty : TypeId} (hKO : KOk P ty t) : ∃ d, P.underlying ty = some d := by
  cases t with
  | int kk => exact ⟨_, hKO⟩
  | string => exact ⟨_, hKO⟩
  | _ => cases hf
theorem lkOut_snd (r : Rel env n0 M h w) {v : V} {x : Value} (hv : VR env M v x) (ok is : Bool) {s : Sem Value} (hs : s.run P w = .ok (if ok then .tuple #[x, .bool is] else x) w) : SndV env n0 P M h w (lkOut ok v is) s := by
  cases ok with
  | true => exact Snd.ret r (x := .tuple #[x, .bool is]) hs (VR.tup _ _ (.cons _ _ _ _ hv (.one (.b (.c is)))))
  | false => exact Snd.ret r (by simpa using hs) hv
theorem lookup_snd (hT : TabOk P cx) (r : Rel env n0 M h w) {m k : V} {m' k' : Value} (hm : VR env M m m') (hk : VR env M k k') (t : TypeId) (ok : Bool) :
    SndV env n0 P M h w (vlookup (tk cx t) cx m k ok) (Instr.lookup t m' k' ok) := by
  have hkt := tk_ok hT t
  cases hkk : tk cx t with
  | map kt el =>
    rw [hkk] at hkt
    have hu : P.underlying t = some (.map kt el) := hkt
    show SndV env n0 P M h w (match tiZero (cx.ty.get el) with | some z => (match keyFits (tk cx kt) k with | true => lkM m z k ok | false => .bad 65) | none => .bad 65) _
    cases hte : cx.ty.get el with
    | none => exact Snd.bad
    | some ti =>
      show SndV env n0 P M h w (match ti.zero with | some z => (match keyFits (tk cx kt) k with | true => lkM m z k ok | false => .bad 65) | none => .bad 65) _
      cases hz : ti.zero with
      | none => exact Snd.bad
      | some z =>
        show SndV env n0 P M h w (match keyFits (tk cx kt) k with | true => lkM m z k ok | false => .bad 65) _
        cases hf : keyFits (tk cx kt) k with
        | false => exact Snd.bad
        | true =>
          have hKO := tk_ok hT kt
          obtain ⟨d, hd⟩ := keyFits_und hf hKO
          obtain ⟨zx, z1, z2⟩ := (hT el ti hte).run_zero (w := w) hz
          have hck : ∀ empty, (Instr.checkKey empty 10000 kt k').run P w = .ok () w := fun empty => checkKey_run empty hk hf hKO 9999
          cases hm with
          | mn =>
            refine lkOut_snd r (z2 env M) ok false ?_
            simp only [Instr.lookup, Sem.run_bind, run_und hu, Result.andThen_ok, Sem.run_pure, hck, Instr.findKey, run_und hd, Instr.findNow, z1]
          | m b pl hM =>
            intro nx lg a h' nx' lg' hn er
            obtain ⟨es, g1, g2⟩ := run_getM er
            obtain ⟨pl', ms, clock, m1, m2, m3, m4, m5⟩ := r.map_at g1
            rw [hM] at m1; cases m1
            have hgo := getObj_run (P := P) m2 (by simp)
            cases hfm : findM k es 0 with
            | none => rw [hfm] at g2; exact (run_bad g2).elim
            | some res =>
              rw [hfm] at g2
              have hfo := findM_ok hk hf hd hKO es ms.toList 0 res m3 m4 hfm
              match res, hfo, g2 with
              | none, hfo, g2 =>
                refine lkOut_snd (P := P) r (z2 env M) ok false (s := Instr.lookup t (.map (some pl.blk)) k' ok) ?_ nx _ a h' nx' lg' hn g2
                simp only [Instr.lookup, Sem.run_bind, run_und hu, Result.andThen_ok, Sem.run_pure, hck, hgo, Instr.findKey, run_und hd, hfo, z1]
              | some (j, v), hfo, g2 =>
                obtain ⟨x, i1, i2, _⟩ := hfo
                refine lkOut_snd (P := P) r i2 ok true (s := Instr.lookup t (.map (some pl.blk)) k' ok) ?_ nx _ a h' nx' lg' hn g2
                simp only [Instr.lookup, Sem.run_bind, run_und hu, Result.andThen_ok, Sem.run_pure, hck, hgo, Instr.findKey, run_und hd, i1]
          | _ => exact Snd.bad
  | _ => exact Snd.bad
theorem VRs.set : ∀ {l : List V} {l' : List Value} (_ : VRs env M l l') (j : Nat) {v : V} {x : Value} (_ : VR env M v x), VRs env M (l.set j v) (l'.set j x)
  | _, _, .nil, _, _, _, _ => .nil
  | _, _, .cons _ _ _ _ _ h, 0, _, _, hv => .cons _ _ _ _ hv h
  | _, _, .cons _ _ _ _ hx h, j + 1, _, _, hv => .cons _ _ _ _ hx (VRs.set h j hv)
theorem setAt_keys (k v : V) : ∀ (es : List (V × V)) (j : Nat), (setAt es j k v).map (·.1) = (es.map (·.1)).set j k
  | [], _ => rfl
  | _ :: _, 0 => rfl
  | x :: es, j + 1 => by
    show x.1 :: (setAt es j k v).map (·.1) = _
    rw [setAt_keys k v es j]; rfl
theorem setAt_vals (k v : V) : ∀ (es : List (V × V)) (j : Nat), (setAt es j k v).map (·.2) = (es.map (·.2)).set j v
  | [], _ => rfl
  | _ :: _, 0 => rfl
  | x :: es, j + 1 => by
    show x.2 :: (setAt es j k v).map (·.2) = _
    rw [setAt_vals k v es j]; rfl
theorem modify_map {α β : Type} (ms : Array α) (j : Nat) (f : α → α) (g : α → β) (b : β) (hg : ∀ a, g (f a) = b) : (ms.modify j f).toList.map g = (ms.toList.map g).set j b := by
  apply List.ext_getElem?
  intro i
  rw [List.getElem?_map, Array.getElem?_toList, Array.getElem?_modify, List.getElem?_set, List.getElem?_map, Array.getElem?_toList]
  by_cases hij : j = i
  · subst hij
    rw [if_pos rfl, if_pos rfl]
    cases hm : ms[j]? with
    | none =>
      have : ¬ j < ms.size := by
        intro h
        rw [Array.getElem?_eq_getElem h] at hm; cases hm
      rw [if_neg (by simpa using this)]; rfl
    | some a =>
      have hj : j < ms.size := by
        rcases Nat.lt_or_ge j ms.size with h | h
        · exact h
        · rw [Array.getElem?_eq_none h] at hm; cases hm
      rw [if_pos (by simpa using hj)]
      simp [hg]
  · rw [if_neg hij, if_neg hij]
theorem setObj_run {b : Nat} {ms : Array MapEntry} {clock : Nat} (hb : w.heap[b]? = some (.map ms clock)) (o : Obj) : (setObj b o).run P w = .ok () { w with heap := w.heap.setIfInBounds b o } := by
  show Sem.run P (.setObj b o (.pure ())) w = _
  simp only [Sem.run, hb]
theorem mapUpdate_snd (hT : TabOk P cx) (r : Rel env n0 M h w) {m k v : V} {m' k' x : Value} (hm : VR env M m m') (hk : VR env M k k') (hv : VR env M v x) (t : TypeId) :
    SndU env n0 P M h w (vmapUpdate (tk cx t) cx m k v) (Instr.mapUpdate t m' k' x) := by
  have hkt := tk_ok hT t
  cases hkk : tk cx t with
  | map kt el =>
    rw [hkk] at hkt
    have hu : P.underlying t = some (.map kt el) := hkt
    show SndU env n0 P M h w (match keyFits (tk cx kt) k with | true => muM m k v | false => .bad 68) _
    cases hf : keyFits (tk cx kt) k with
    | false => exact Snd.badU
    | true =>
      have hKO := tk_ok hT kt
      obtain ⟨d, hd⟩ := keyFits_und hf hKO
      have hck : ∀ empty, (Instr.checkKey empty 10000 kt k').run P w = .ok () w := fun empty => checkKey_run empty hk hf hKO 9999
      cases hm with
      | m b pl hM =>
        intro nx lg a h' nx' lg' hn er
        obtain ⟨es, g1, g2⟩ := run_getM er
        obtain ⟨pl', ms, clock, m1, m2, m3, m4, m5⟩ := r.map_at g1
        rw [hM] at m1; cases m1
        have hgo := getObj_run (P := P) m2 (by simp)
        cases hfm : findM k es 0 with
        | none => rw [hfm] at g2; exact (run_bad g2).elim
        | some res =>
          rw [hfm] at g2
          have hfo := findM_ok hk hf hd hKO es ms.toList 0 res m3 m4 hfm
          match res, hfo, g2 with
          | none, hfo, g2 =>
            obtain ⟨es0, q1, q2, q3⟩ := run_setM g2
            obtain ⟨_, e5⟩ := run_ret q3
            cases e5
            refine ⟨M, { w with heap := w.heap.setIfInBounds pl.blk (.map (ms.push { key := k', val := x, born := clock }) (clock + 1)) }, (), ?_, M.le_refl, r.setMap q1 q2 hM ?_ ?_, trivial, setMap_below _ _ (m5 q2), hn⟩
            · simp only [Instr.mapUpdate, Sem.run_bind, run_und hu, Result.andThen_ok, Sem.run_pure, hck, hgo, Instr.findKey, run_und hd, hfo, setObj_run m2]
            · rw [List.map_append, Array.toList_push, List.map_append]
              exact m3.append (.one hk)
            · rw [List.map_append, Array.toList_push, List.map_append]
              exact m4.append (.one hv)
          | some (j, v'), hfo, g2 =>
            obtain ⟨x', i1, i2, i3, me, i4, i5⟩ := hfo
            obtain ⟨es0, q1, q2, q3⟩ := run_setM g2
            obtain ⟨_, e5⟩ := run_ret q3
            cases e5
            have hold : ((ms[j]?).map (·.key)).getD k' = me.key := by
              have : ms[j]? = some me := by simpa using i4
              rw [this]; rfl
            refine ⟨M, { w with heap := w.heap.setIfInBounds pl.blk (.map (ms.modify j fun e => { e with key := k', val := x }) clock) }, (), ?_, M.le_refl, r.setMap q1 q2 hM ?_ ?_, trivial, setMap_below _ _ (m5 q2), hn⟩
            · simp only [Instr.mapUpdate, Sem.run_bind, run_und hu, Result.andThen_ok, Sem.run_pure, hck, hgo, Instr.findKey, run_und hd, i1, hold, Instr.keyThatStays]
              rw [if_pos i5]
              simp only [Sem.run_pure, Result.andThen_ok, setObj_run m2]
            · rw [setAt_keys, modify_map _ _ _ _ k' (fun _ => rfl)]
              exact m3.set j hk
            · rw [setAt_vals, modify_map _ _ _ _ x (fun _ => rfl)]
              exact m4.set j hv
      | _ => exact Snd.badU
  | _ => exact Snd.badU
theorem eraseAt_eq : ∀ (es : List (V × V)) (j : Nat), eraseAt es j = es.eraseIdx j
  | [], _ => rfl
  | _ :: _, 0 => rfl
  | x :: r, j + 1 => by rw [List.eraseIdx_cons_succ, ← eraseAt_eq r j]; rfl
theorem VRs.eraseIdx : ∀ {l : List V} {l' : List Value} (_ : VRs env M l l') (j : Nat), VRs env M (l.eraseIdx j) (l'.eraseIdx j)
  | _, _, .nil, _ => .nil
  | _, _, .cons _ _ _ _ _ h, 0 => h
  | _, _, .cons _ _ _ _ hx h, j + 1 => .cons _ _ _ _ hx (VRs.eraseIdx h j)
theorem map_eraseIdx {α β : Type} (g : α → β) : ∀ (l : List α) (j : Nat), (l.eraseIdx j).map g = (l.map g).eraseIdx j
  | [], _ => rfl
  | _ :: _, 0 => rfl
  | x :: r, j + 1 => by simp only [List.eraseIdx_cons_succ, List.map_cons, map_eraseIdx g r j]
theorem delete_snd (hT : TabOk P cx) (r : Rel env n0 M h w) {m k : V} {m' k' : Value} (hm : VR env M m m') (hk : VR env M k k') {tys : Array TypeId} {t : TypeId} {rest : List TypeId} (hty : tys.toList = t :: rest) (ty : TypeId) :
    SndV env n0 P M h w (vdelete (tk cx t) cx m k) (Builtin.delete_ tys ty #[m', k']) := by
  have h0 : tys[0]? = some t := by rw [← Array.getElem?_toList, hty]; rfl
  have hkt := tk_ok hT t
  cases hkk : tk cx t with
  | map kt el =>
    rw [hkk] at hkt
    have hu : P.underlying t = some (.map kt el) := hkt
    show SndV env n0 P M h w (match keyFits (tk cx kt) k with | true => delM m k | false => .bad 68) _
    cases hf : keyFits (tk cx kt) k with
    | false => exact Snd.bad
    | true =>
      have hKO := tk_ok hT kt
      obtain ⟨d, hd⟩ := keyFits_und hf hKO
      have hck : ∀ empty, (Instr.checkKey empty 10000 kt k').run P w = .ok () w := fun empty => checkKey_run empty hk hf hKO 9999
      cases hm with
      | mn =>
        exact Snd.ret r (x := .tuple #[]) (by simp only [Builtin.delete_, h0, List.getElem?_toArray, List.getElem?_cons_zero, List.getElem?_cons_succ, Sem.run_bind, run_und hu, Result.andThen_ok, hck, Sem.run_pure]) (.tup [] #[] .nil)
      | m b pl hM =>
        intro nx lg a h' nx' lg' hn er
        obtain ⟨es, g1, g2⟩ := run_getM er
        obtain ⟨pl', ms, clock, m1, m2, m3, m4, m5⟩ := r.map_at g1
        rw [hM] at m1; cases m1
        have hgo := getObj_run (P := P) m2 (by simp)
        cases hfm : findM k es 0 with
        | none => rw [hfm] at g2; exact (run_bad g2).elim
        | some res =>
          rw [hfm] at g2
          have hfo := findM_ok hk hf hd hKO es ms.toList 0 res m3 m4 hfm
          match res, hfo, g2 with
          | none, hfo, g2 =>
            obtain ⟨es0, q1, q2, q3⟩ := run_setM g2
            obtain ⟨e4, e5⟩ := run_ret q3
            cases e5; subst e4
            refine ⟨M, { w with heap := w.heap.setIfInBounds pl.blk (.map ms clock) }, .tuple #[], ?_, M.le_refl, r.setMap q1 q2 hM m3 m4, .tup [] #[] .nil, setMap_below _ _ (m5 q2), hn⟩
            simp only [Builtin.delete_, h0, List.getElem?_toArray, List.getElem?_cons_zero, List.getElem?_cons_succ, Sem.run_bind, run_und hu, Result.andThen_ok, Sem.run_pure, hck, hgo, Instr.findKey, run_und hd, hfo, setObj_run m2]
          | some (j, v'), hfo, g2 =>
            obtain ⟨x', i1, i2, i3, me, i4, i5⟩ := hfo
            obtain ⟨es0, q1, q2, q3⟩ := run_setM g2
            obtain ⟨e4, e5⟩ := run_ret q3
            cases e5; subst e4
            have hte : (ms.eraseIdxIfInBounds j).toList = ms.toList.eraseIdx j := by
              rw [Array.eraseIdxIfInBounds]
              split
              · simp
              · rename_i hlt
                rw [List.eraseIdx_of_length_le (by simpa using hlt)]
            refine ⟨M, { w with heap := w.heap.setIfInBounds pl.blk (.map (ms.eraseIdxIfInBounds j) clock) }, .tuple #[], ?_, M.le_refl, r.setMap q1 q2 hM ?_ ?_, .tup [] #[] .nil, setMap_below _ _ (m5 q2), hn⟩
            · simp only [Builtin.delete_, h0, List.getElem?_toArray, List.getElem?_cons_zero, List.getElem?_cons_succ, Sem.run_bind, run_und hu, Result.andThen_ok, Sem.run_pure, hck, hgo, Instr.findKey, run_und hd, i1, setObj_run m2]
            · rw [eraseAt_eq, hte, map_eraseIdx, map_eraseIdx]
              exact m3.eraseIdx j
            · rw [eraseAt_eq, hte, map_eraseIdx, map_eraseIdx]
              exact m4.eraseIdx j
      | _ => exact Snd.bad
  | _ => exact Snd.bad
theorem makeMap_snd (r : Rel env n0 M h w) (t : TypeId) : SndV env n0 P M h w (.new (.map []) mapTo) (Instr.makeMap t none) := by
  intro nx lg a h' nx' lg' hn er
  obtain ⟨q1, q2⟩ := run_new er
  obtain ⟨e4, e5⟩ := run_ret q2
  cases e5; subst e4
  have hM := r.dom nx q1
  have hp := r.push q1 hn (ob := .map []) (o := .map #[] 0) (pl := ⟨w.heap.size, 0, 0, 0, false⟩) rfl rfl (fun w' hw' => OR.map [] #[] 0 hw' .nil .nil)
  refine ⟨_, _, .map (some w.heap.size), ?_, Mp.le_add hM, hp, VR.m nx _ (add_self _ _ _), push_below r.size _, by omega⟩
  simp only [Instr.makeMap, Sem.run_bind, run_newObj, Result.andThen_ok, Sem.run_pure]
end ops
end Go.Vm
