/- VM: its operations are the model's, one by one (fourth part): make, cuts, append, copy. -/
import Derived.Test.YtpbnbgjclalpeaaDoorVmOpC
set_option linter.unusedVariables false
set_option linter.unusedSimpArgs false
namespace Go.Vm
open Go.RowKit
open Go.Builtin (zeroCells nextslicecap growBy lenOf firstCells)
section ops
variable {env : Nat → Int} {n0 : Nat} {P : Program} {M : Mp} {h : Tr Ob} {w : World} {cx : Cx}

theorem and_true {a b : Bool} (e : (a && b) = true) : a = true ∧ b = true := by simpa using e
theorem wrap64_id {n : Int} (h0 : 0 ≤ n) (h1 : n ≤ 1048576) : IntKind.i64.wrap n = n := by
  simp only [IntKind.wrap, IntKind.bits, IntKind.signed]
  simp
  omega
theorem makeSlice_snd (hT : TabOk P cx) (r : Rel env n0 M h w) {lv cv : V} {l' c' : Value} (hl : VR env M lv l') (hc : VR env M cv c') (t : TypeId) :
    SndV env n0 P M h w (vmakeSlice (tk cx t) cx (asN lv) (asN cv)) (Instr.makeSlice t l' c') := by
  have hk := tk_ok hT t
  cases hkk : tk cx t with
  | slice e =>
    rw [hkk] at hk
    have hu : P.underlying t = some (.slice e) := hk
    cases hln : asN lv with
    | none => exact Snd.bad
    | some l =>
      cases hcn : asN cv with
      | none => exact Snd.bad
      | some c =>
        obtain ⟨k1, rfl⟩ := asN_of hl hln
        obtain ⟨k2, rfl⟩ := asN_of hc hcn
        show SndV env n0 P M h w (mks2 (cx.ty.get e) e l c) _
        cases ht : cx.ty.get e with
        | none => exact Snd.bad
        | some ti =>
          have ok := hT e ti ht
          show SndV env n0 P M h w (match ileb 0 l && ileb l c && ileb c 1048576 && Nat.ble ti.bytes 4096 with | true => mks3 ti.zero e ti.size l.toNat c.toNat | false => .bad 28) _
          cases hb : (ileb 0 l && ileb l c && ileb c 1048576 && Nat.ble ti.bytes 4096) with
          | false => exact Snd.bad
          | true =>
            obtain ⟨hb, hb4⟩ := and_true hb
            obtain ⟨hb, hb3⟩ := and_true hb
            obtain ⟨hb1, hb2⟩ := and_true hb
            rw [ileb_eq] at hb1 hb2 hb3
            have q1 : 0 ≤ l := of_decide_eq_true hb1
            have q2 : l ≤ c := of_decide_eq_true hb2
            have q3 : c ≤ 1048576 := of_decide_eq_true hb3
            have q4 : ti.bytes ≤ 4096 := Nat.le_of_ble_eq_true hb4
            show SndV env n0 P M h w (mks3 ti.zero e ti.size l.toNat c.toNat) _
            cases hz : ti.zero with
            | none => exact Snd.bad
            | some z =>
              show SndV env n0 P M h w (match Nat.beq (cellsV z).length ti.size with | true => vnew e ti.size (RL.rep c.toNat (cellsV z)) true (sliceTo l.toNat c.toNat) | false => .bad 29) _
              cases hzn : Nat.beq (cellsV z).length ti.size with
              | false => exact Snd.bad
              | true =>
                have q5 : (cellsV z).length = ti.size := Nat.eq_of_beq_eq_true hzn
                obtain ⟨x, x1, x2⟩ := ok.run_zero (w := w) hz
                have hxs : x.cells.size = ti.size := by have := (x2 env M).cells.length; rw [← q5, this]; simp
                obtain ⟨i, i1, i2, i3⟩ := ok.run_info (w := w)
                have hmul : (ti.bytes : Int) * c ≤ 4294967296 := by
                  have : (ti.bytes : Int) * c ≤ 4096 * 1048576 := Int.mul_le_mul (by omega) q3 (by omega) (by omega)
                  omega
                have hmul0 : (0 : Int) ≤ (ti.bytes : Int) * c := Int.mul_nonneg (by omega) (by omega)
                refine row_slice r (rep_zeros (x2 env M) c.toNat) #[] e e ti.size true (fun _ => rfl) l.toNat c.toNat c.toNat (by omega) (Nat.le_refl _) (by simp [zeroCells, hxs]) rfl (Below.refl _ _) ?_
                have hwl : IntKind.i64.wrap l = l := wrap64_id q1 (by omega)
                have hwc : IntKind.i64.wrap c = c := wrap64_id (by omega) q3
                simp only [Instr.makeSlice, Sem.run_bind, run_und hu, Result.andThen_ok, asInt, asIntOf, pure_bind, i1, hwl, hwc, i3]
                rw [if_neg (by simp; omega)]
                simp only [Sem.run_bind, run_askRoom, Result.andThen_ok, ok.run_size]
                by_cases h0 : c.toNat * ti.size = 0
                · rw [if_pos h0]
                  have hz0 : (Array.range (c.toNat * ti.size)).map (fun i => (#[] : Array Value)[i % (#[] : Array Value).size]!) = zeroCells x.cells c.toNat := by
                    simp [zeroCells, hxs, h0]
                  simp only [Sem.run_pure, Result.andThen_ok, hz0, newRow, Sem.run_bind, run_newObj]
                  simp
                · rw [if_neg h0]
                  have hz0 : (Array.range (c.toNat * ti.size)).map (fun i => x.cells[i % x.cells.size]!) = zeroCells x.cells c.toNat := by
                    simp only [zeroCells, hxs]
                  simp only [Sem.run_bind, x1, Result.andThen_ok, Sem.run_pure, hz0, newRow, run_newObj]
                  simp
  | _ => exact Snd.bad

/-! ### cuts -/
theorem bound_run {x : Value} {i : Int} {y : Nat} (k : IntKind) (hx : x = .int k i) (h0 : 0 ≤ i) (h1 : i ≤ y) (code : BoundsCode) : (Instr.sliceBound x y code).run P w = .ok i.toNat w := by
  subst hx
  simp only [Instr.sliceBound, asIntOf, pure_bind]
  rw [if_pos ⟨h0, h1⟩]
  rfl
theorem optN_of {v : Option V} {x : Option Value} (hv : match v, x with | none, none => True | some v, some x => VR env M v x | _, _ => False) {d : Nat} {i : Int} (e : optN v d = some i) :
    (x = none ∧ i = d) ∨ (∃ k, x = some (.int k i)) := by
  match v, x, hv with
  | none, none, _ => left; cases e; exact ⟨rfl, rfl⟩
  | some v, some x, hv => right; obtain ⟨k, rfl⟩ := asN_of hv e; exact ⟨k, rfl⟩
abbrev OptR (env : Nat → Int) (M : Mp) (v : Option V) (x : Option Value) : Prop := match v, x with | none, none => True | some v, some x => VR env M v x | _, _ => False
/-- The bounds of a cut. -/
theorem bounds_run {lo hi mx : Option V} {lo' hi' mx' : Option Value} (hlo : OptR env M lo lo') (hhi : OptR env M hi hi') (hmx : OptR env M mx mx') {len cap c' : Nat} (isS : Bool) {l h m : Int}
    (e1 : optN lo 0 = some l) (e2 : optN hi len = some h) (e3 : optN mx cap = some m) (q1 : 0 ≤ l) (q2 : l ≤ h) (q3 : h ≤ m) (q4 : m ≤ cap) (hc : cap ≤ c') (hS : mx.isSome = true → hi.isSome = true) (w : World) :
    ∃ m' : Nat, (Instr.sliceBounds isS len c' lo' hi' mx').run P w = .ok (l.toNat, h.toNat, m') w ∧ m.toNat ≤ m' ∧ m' ≤ c' := by
  rcases optN_of hlo e1 with ⟨rfl, hl⟩ | ⟨k1, rfl⟩ <;> rcases optN_of hhi e2 with ⟨rfl, hh⟩ | ⟨k2, rfl⟩ <;> rcases optN_of hmx e3 with ⟨rfl, hm⟩ | ⟨k3, rfl⟩
  · refine ⟨c', ?_, by omega, Nat.le_refl _⟩
    simp [Instr.sliceBounds, hl, hh]
  · have : hi = none := by cases hi; rfl; exact hhi.elim
    have : mx.isSome = true := by cases mx; exact hmx.elim; rfl
    simp_all
  · refine ⟨c', ?_, by omega, Nat.le_refl _⟩
    have b2 := fun code => bound_run (P := P) (w := w) (y := c') k2 rfl (by omega : (0 : Int) ≤ h) (by omega) code
    simp [Instr.sliceBounds, b2, hl]
  · refine ⟨m.toNat, ?_, Nat.le_refl _, by omega⟩
    have b3 := fun code => bound_run (P := P) (w := w) (y := c') k3 rfl (by omega : (0 : Int) ≤ m) (by omega) code
    have b2 := fun code => bound_run (P := P) (w := w) (y := m.toNat) k2 rfl (by omega : (0 : Int) ≤ h) (by omega) code
    simp [Instr.sliceBounds, b2, b3, hl]
  · refine ⟨c', ?_, by omega, Nat.le_refl _⟩
    have b1 := fun code => bound_run (P := P) (w := w) (y := len) k1 rfl q1 (by omega) code
    simp [Instr.sliceBounds, b1, hh]
  · have : hi = none := by cases hi; rfl; exact hhi.elim
    have : mx.isSome = true := by cases mx; exact hmx.elim; rfl
    simp_all
  · refine ⟨c', ?_, by omega, Nat.le_refl _⟩
    have b2 := fun code => bound_run (P := P) (w := w) (y := c') k2 rfl (by omega : (0 : Int) ≤ h) (by omega) code
    have b1 := fun code => bound_run (P := P) (w := w) (y := h.toNat) k1 rfl q1 (by omega) code
    simp [Instr.sliceBounds, b1, b2]
  · refine ⟨m.toNat, ?_, Nat.le_refl _, by omega⟩
    have b3 := fun code => bound_run (P := P) (w := w) (y := c') k3 rfl (by omega : (0 : Int) ≤ m) (by omega) code
    have b2 := fun code => bound_run (P := P) (w := w) (y := m.toNat) k2 rfl (by omega : (0 : Int) ≤ h) (by omega) code
    have b1 := fun code => bound_run (P := P) (w := w) (y := h.toNat) k1 rfl q1 (by omega) code
    simp [Instr.sliceBounds, b1, b2, b3]
theorem cutL_snd (r : Rel env n0 M h w) {a : Option (Nat × Nat)} {len cap : Nat} {x : Value} (hx : VR env M (.sl a len cap) x) {t e : TypeId} (hu : P.underlying t = some (.slice e)) {n : Nat} (hn : ∀ w, (sizeOf e).run P w = .ok n w)
    {lo hi mx : Option V} {lo' hi' mx' : Option Value} (hlo : OptR env M lo lo') (hhi : OptR env M hi hi') (hmx : OptR env M mx mx') (hS : mx.isSome = true → hi.isSome = true) :
    SndV env n0 P M h w (cutL a cap n (optN lo 0) (optN hi len) (optN mx cap)) (Instr.slice t x lo' hi' mx') := by
  cases e1 : optN lo 0 with
  | none => exact Snd.bad
  | some l =>
  cases e2 : optN hi len with
  | none => exact Snd.bad
  | some hh =>
  cases e3 : optN mx cap with
  | none => exact Snd.bad
  | some m =>
    show SndV env n0 P M h w (match ileb 0 l && ileb l hh && ileb hh m && upto m cap with | true => cutA a l.toNat n (Nat.sub hh.toNat l.toNat) (Nat.sub m.toNat l.toNat) | false => .bad 34) _
    cases hb : (ileb 0 l && ileb l hh && ileb hh m && upto m cap) with
    | false => exact Snd.bad
    | true =>
      obtain ⟨hb, hb4⟩ := and_true hb
      obtain ⟨hb, hb3⟩ := and_true hb
      obtain ⟨hb1, hb2⟩ := and_true hb
      rw [ileb_eq] at hb1 hb2 hb3
      have q1 : 0 ≤ l := of_decide_eq_true hb1
      have q2 : l ≤ hh := of_decide_eq_true hb2
      have q3 : hh ≤ m := of_decide_eq_true hb3
      have q4 := ((upto_eq m cap).1 hb4).2
      cases hx with
      | sn _ _ =>
        obtain ⟨m', hbd, p1, p2⟩ := bounds_run (P := P) hlo hhi hmx true (cap := cap) (c' := cap) e1 e2 e3 q1 q2 q3 q4 (Nat.le_refl _) hS w
        have hmm : m' = m.toNat ∨ mx' = none := by
          rcases optN_of hmx e3 with ⟨rfl, _⟩ | ⟨k3, rfl⟩
          · exact .inr rfl
          · left
            have b3 := fun code => bound_run (P := P) (w := w) (y := cap) k3 rfl (by omega : (0 : Int) ≤ m) (by omega) code
            rcases optN_of hhi e2 with ⟨rfl, _⟩ | ⟨k2, rfl⟩ <;> rcases optN_of hlo e1 with ⟨rfl, _⟩ | ⟨k1, rfl⟩ <;> simp [Instr.sliceBounds, b3] at hbd
            · have b2 := fun code => bound_run (P := P) (w := w) (y := m.toNat) k2 rfl (by omega : (0 : Int) ≤ hh) (by omega) code
              simp [b2] at hbd; omega
            · have b2 := fun code => bound_run (P := P) (w := w) (y := m.toNat) k2 rfl (by omega : (0 : Int) ≤ hh) (by omega) code
              have b1 := fun code => bound_run (P := P) (w := w) (y := hh.toNat) k1 rfl q1 (by omega) code
              simp [b2, b1] at hbd; omega
        have hm2 : m' = m.toNat := by
          rcases hmm with e | e
          · exact e
          · subst e
            rcases optN_of hmx e3 with ⟨_, hm⟩ | ⟨k3, hk⟩
            · omega
            · cases hk
        subst hm2
        refine Snd.ret r ?_ (VR.sn _ _)
        simp only [Instr.slice, Sem.run_bind, run_und hu, Result.andThen_ok, hbd, hn, Sem.run_pure]
        simp
      | sl b o _ _ c' pl a' hM h1 h2 h3 h4 =>
        obtain ⟨m', hbd, p1, p2⟩ := bounds_run (P := P) hlo hhi hmx true (cap := cap) (c' := c') e1 e2 e3 q1 q2 q3 q4 h1 hS w
        have hrun : (Instr.slice t (.slice (some a') len c') lo' hi' mx').run P w = .ok (.slice (some (if m' = l.toNat then a' else a'.add (l.toNat * n))) (hh.toNat - l.toNat) (m' - l.toNat)) w := by
          simp only [Instr.slice, Sem.run_bind, run_und hu, Result.andThen_ok, hbd, hn, Sem.run_pure]
          congr 2
          split <;> rfl
        show SndV env n0 P M h w (match Nat.beq l.toNat 0 with | true => .ret (.sl (some (b, o)) (Nat.sub hh.toNat l.toNat) (Nat.sub m.toNat l.toNat)) | false => .info b fun es _ _ => match Nat.beq n es with
          | true => .ret (.sl (some (b, Nat.add o (Nat.mul l.toNat n))) (Nat.sub hh.toNat l.toNat) (Nat.sub m.toNat l.toNat)) | false => .bad 34) _
        cases hl0 : Nat.beq l.toNat 0 with
        | true =>
          have hl0 : l.toNat = 0 := Nat.eq_of_beq_eq_true hl0
          have hle : m' * pl.es ≤ c' * pl.es := Nat.mul_le_mul_right _ p2
          refine Snd.ret r hrun ?_
          refine VR.sl b o (hh.toNat - l.toNat) (m.toNat - l.toNat) (m' - l.toNat) pl _ hM (by omega) (by rw [hl0, Nat.sub_zero]; omega) ?_ (by omega)
          rcases h3 with e | e
          · left
            split
            · exact e
            · rw [hl0, Nat.zero_mul]; exact e
          · right; omega
        | false =>
          intro nx lg a h' nx' lg' hnx er
          obtain ⟨el, es, ex, cs, g1, g2⟩ := run_info' er
          cases hes : Nat.beq n es with
          | false => rw [hes] at g2; exact (run_bad g2).elim
          | true =>
            rw [hes] at g2
            obtain ⟨e4, e5⟩ := run_ret g2
            cases e5; subst e4
            have hnes : n = es := Nat.eq_of_beq_eq_true hes
            obtain ⟨pl', c, el', fz, m1, m2, m3, m4, m5⟩ := r.live g1
            rw [hM] at m1; cases m1
            refine ⟨M, w, _, hrun, M.le_refl, r, ?_, Below.refl _ _, hnx⟩
            have hlm : l.toNat ≤ m' := by omega
            have hbound : l.toNat * n + (m' - l.toNat) * pl.es ≤ c' * pl.es := by
              rw [hnes, ← m2, ← Nat.add_mul]
              exact Nat.mul_le_mul_right _ (by omega)
            refine VR.sl b (o + l.toNat * n) (hh.toNat - l.toNat) (m.toNat - l.toNat) (m' - l.toNat) pl _ hM (by omega) (by omega) ?_ (by omega)
            by_cases em : m' = l.toNat
            · right; omega
            · left
              rw [if_neg em]
              rcases h3 with e | e
              · rw [e, add_eq, Nat.add_assoc]
              · omega
theorem cutS_snd (r : Rel env n0 M h w) {q : RL Nat} {x : Value} (hx : VR env M (.s q) x) {t : TypeId} (hu : P.underlying t = some .string)
    {lo hi : Option V} {lo' hi' : Option Value} (hlo : OptR env M lo lo') (hhi : OptR env M hi hi') :
    SndV env n0 P M h w (cutS (optN lo 0) (optN hi q.len) q) (Instr.slice t x lo' hi' none) := by
  cases hx with
  | s _ s hs hok =>
    have hlen : q.len = s.size := by
      rw [RL.len_eq]
      have := congrArg List.length hs
      simp [bytesOf] at this
      exact this.symm
    cases e1 : optN lo 0 with
    | none => exact Snd.bad
    | some l =>
    cases e2 : optN hi q.len with
    | none => exact Snd.bad
    | some hh =>
      show SndV env n0 P M h w (match ileb 0 l && ileb l hh && upto hh q.len with | true => .ret (.s ((q.drop l.toNat).take (hh.toNat - l.toNat))) | false => .bad 32) _
      cases hb : (ileb 0 l && ileb l hh && upto hh q.len) with
      | false => exact Snd.bad
      | true =>
        obtain ⟨hb, hb4⟩ := and_true hb
        obtain ⟨hb1, hb2⟩ := and_true hb
        rw [ileb_eq] at hb1 hb2
        have q1 : 0 ≤ l := of_decide_eq_true hb1
        have q2 : l ≤ hh := of_decide_eq_true hb2
        have q4 := ((upto_eq hh q.len).1 hb4).2
        have e2' : optN hi s.size = some hh := by rw [← hlen]; exact e2
        obtain ⟨m', hbd, p1, p2⟩ := bounds_run (P := P) (env := env) (M := M) (mx := none) (mx' := none) hlo hhi trivial false (len := s.size) (cap := q.len) (c' := s.size) e1 e2' rfl q1 q2 q4 (Int.le_refl _) (by omega) (by simp) w
        refine Snd.ret r (x := .string (s.extract l.toNat hh.toNat)) ?_ (VR.s _ _ ?_ ?_)
        · simp only [Instr.slice, Sem.run_bind, run_und hu, Result.andThen_ok]
          rw [if_neg (by simp)]
          simp only [hbd, Sem.run_bind, Sem.run_pure, Result.andThen_ok]
        · simp only [bytesOf, RL.toList_take, RL.toList_drop, List.map_take, List.map_drop]
          rw [show (s.extract l.toNat hh.toNat).data.toList = (s.data.toList.drop l.toNat).take (hh.toNat - l.toNat) by
            simp [ByteArray.data_extract, List.extract_eq_take_drop]]
          rw [hs]
          rfl
        · intro n hn
          rw [RL.toList_take, RL.toList_drop] at hn
          exact hok n (List.mem_of_mem_drop (List.mem_of_mem_take hn))
theorem slice_snd (hT : TabOk P cx) (r : Rel env n0 M h w) {v : V} {x : Value} (hx : VR env M v x) (t : TypeId)
    {lo hi mx : Option V} {lo' hi' mx' : Option Value} (hlo : OptR env M lo lo') (hhi : OptR env M hi hi') (hmx : OptR env M mx mx') (hS : mx.isSome = true → hi.isSome = true) :
    SndV env n0 P M h w (vslice (tk cx t) cx v lo hi mx) (Instr.sliceAt t x lo' hi' mx') := by
  have hk := tk_ok hT t
  cases hkk : tk cx t with
  | slice e =>
    rw [hkk] at hk
    have hu : P.underlying t = some (.slice e) := hk
    have hat : ∀ w, (Instr.sliceAt t x lo' hi' mx').run P w = (Instr.slice t x lo' hi' mx').run P w := by
      intro w; simp only [Instr.sliceAt, Sem.run_bind, run_und hu, Result.andThen_ok]
    cases v with
    | sl a len cap =>
      show SndV env n0 P M h w (match tsize cx e with | some n => cutL a cap n (optN lo 0) (optN hi len) (optN mx cap) | none => .bad 35) _
      cases hz : tsize cx e with
      | none => exact Snd.bad
      | some n =>
        have := cutL_snd (P := P) r hx hu (fun w => tsize_ok hT hz w) hlo hhi hmx hS
        intro nx lg a h' nx' lg' hn er
        obtain ⟨M', w', y, y1, y2⟩ := this nx lg a h' nx' lg' hn er
        exact ⟨M', w', y, by rw [hat]; exact y1, y2⟩
    | _ => exact Snd.bad
  | string =>
    rw [hkk] at hk
    have hu : P.underlying t = some .string := hk
    have hat : ∀ w, (Instr.sliceAt t x lo' hi' mx').run P w = (Instr.slice t x lo' hi' mx').run P w := by
      intro w; simp only [Instr.sliceAt, Sem.run_bind, run_und hu, Result.andThen_ok]
    cases v with
    | s q =>
      cases mx with
      | some m => exact Snd.bad
      | none =>
        cases mx' with
        | some m => exact hmx.elim
        | none =>
          have := cutS_snd (P := P) r hx hu hlo hhi
          intro nx lg a h' nx' lg' hn er
          obtain ⟨M', w', y, y1, y2⟩ := this nx lg a h' nx' lg' hn er
          exact ⟨M', w', y, by rw [hat]; exact y1, y2⟩
    | _ => exact Snd.bad
  | _ => exact Snd.bad
end ops
end Go.Vm
