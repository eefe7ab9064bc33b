/- VM: its operations are the model's, one by one (second part): new rows, places, parts, cuts. -/
import Derived.Test.YtpbnbgjclalpeaaDoorVmOpA
set_option linter.unusedVariables false
set_option linter.unusedSimpArgs false
namespace Go.Vm
open Go.RowKit
section ops
variable {env : Nat → Int} {n0 : Nat} {P : Program} {M : Mp} {h : Tr Ob} {w : World} {cx : Cx}

/-- A new row. -/
theorem new_row (r : Rel env n0 M h w) {α : Type} {e : TypeId} {es : Nat} {cs : RL V} {ex : Bool} {k : Nat → Pr α} {nx nx' : Nat} {lg lg' : Lg} {a : α} {h' : Tr Ob} (hn : RO ≤ nx)
    (hr : (Pr.new (.cells e es ex true cs) k).run h nx lg = .ok a (.mk h' nx' lg')) {xs : List Value} (hx : VRs env M cs.toList xs) (rest : Array Value) (hex : ex = true → rest.size = 0) (e' : TypeId) :
    (k nx).run (h.set nx (.cells e es ex true cs)) (nx + 1) lg = .ok a (.mk h' nx' lg') ∧ M nx = none ∧
      Rel env n0 (M.add nx ⟨w.heap.size, 0, xs.length + rest.size, es, false⟩) (h.set nx (.cells e es ex true cs)) { w with heap := w.heap.push (.cells (xs.toArray ++ rest) e' (0, 0)) } := by
  obtain ⟨h1, h2⟩ := run_new hr
  have hM := r.dom nx h1
  refine ⟨h2, hM, ?_⟩
  refine r.push h1 hn rfl rfl fun w' hw' => ?_
  exact OR.fresh (pl := ⟨w.heap.size, 0, xs.length + rest.size, es, false⟩) (hx.mono (Mp.le_add hM)) rfl rfl hex hw'
theorem add_self (M : Mp) (n : Nat) (pl : Pl) : M.add n pl n = some pl := by unfold Mp.add; rw [if_pos rfl]

/-- A new variable: its place. -/
theorem var_snd (r : Rel env n0 M h w) {v : V} {x : Value} (hv : VR env M v x) (t e : TypeId) (es : Nat) {s : Sem Value}
    (hs : s.run P w = .ok (.pointer (some ⟨w.heap.size, 0, none⟩)) { w with heap := w.heap.push (.cells x.cells t (0, 0)) }) :
    SndV env n0 P M h w (vnew e es (RL.ofList (cellsV v)) true ptrTo) s := by
  intro nx lg a h' nx' lg' hn hr
  have hc := hv.cells
  obtain ⟨h1, h2, h3⟩ := new_row r (xs := x.cells.toList) hn hr (by rw [RL.toList_ofList]; exact hc) #[] (fun _ => rfl) t
  obtain ⟨e4, e5⟩ := run_ret h1
  cases e5; subst e4
  rw [show x.cells.toList.toArray ++ (#[] : Array Value) = x.cells by simp] at h3
  exact ⟨_, _, _, hs, Mp.le_add h2, h3, VR.p nx 0 _ (add_self _ _ _), push_below r.size _, by omega⟩
theorem alloc_snd (hT : TabOk P cx) (r : Rel env n0 M h w) (e : TypeId) :
    SndV env n0 P M h w (allocZ (tiZero (cx.ty.get e)) e) (Instr.alloc e true (.tuple #[])) := by
  cases ht : cx.ty.get e with
  | none => exact Snd.bad
  | some ti =>
    show SndV env n0 P M h w (allocZ ti.zero e) _
    cases hz : ti.zero with
    | none => exact Snd.bad
    | some z =>
      obtain ⟨x, x1, x2⟩ := (hT e ti ht).run_zero (w := w) hz
      refine var_snd r (x2 env M) e e 1 ?_
      simp only [Instr.alloc, Sem.run_bind, x1, Result.andThen_ok, newVar, newRow, run_newObj, Sem.run_pure]
theorem box_snd (r : Rel env n0 M h w) {v : V} {x : Value} (hv : VR env M v x) (e : TypeId) :
    SndV env n0 P M h w (vnew e 1 (RL.ofList (cellsV v)) true ptrTo) (Instr.box e x) := by
  refine var_snd r hv e e 1 ?_
  simp only [Instr.box, Sem.run_bind, newVar, newRow, run_newObj, Result.andThen_ok, Sem.run_pure]

/-! ### fields -/
theorem fldAt_eq (l : List (TypeId × Nat × Bool)) : ∀ n, fldAt l n = l[n]? := by
  induction l with
  | nil => intro n; rfl
  | cons x l ih => intro n; cases n with
    | zero => rfl
    | succ n => exact ih n
theorem nth_eq (l : List V) : ∀ n, nth l n = l[n]? := by
  induction l with
  | nil => intro n; rfl
  | cons x l ih => intro n; cases n with
    | zero => rfl
    | succ n => exact ih n
theorem tk_ok (hT : TabOk P cx) (t : TypeId) : KOk P t (tk cx t) := by
  unfold tk
  cases ht : cx.ty.get t with
  | none => trivial
  | some ti => exact (hT t ti ht).k
theorem tsize_ok (hT : TabOk P cx) {t : TypeId} {n : Nat} (e : tsize cx t = some n) (w : World) : (sizeOf t).run P w = .ok n w := by
  unfold tsize at e
  cases ht : cx.ty.get t with
  | none => rw [ht] at e; cases e
  | some ti => rw [ht] at e; cases e; exact (hT t ti ht).run_size
theorem field_of {fields : Array Field} {fs : List (TypeId × Nat × Bool)} (hfs : fs = fields.toList.map fun f => (f.type, f.offset, f.name == "_")) {f : Nat} {x : TypeId × Nat × Bool} (e : fldAt fs f = some x) :
    ∃ fd : Field, fields[f]? = some fd ∧ x = (fd.type, fd.offset, fd.name == "_") := by
  rw [fldAt_eq, hfs, List.getElem?_map] at e
  cases hg : fields.toList[f]? with
  | none => rw [hg] at e; cases e
  | some fd => rw [hg] at e; cases e; exact ⟨fd, by simpa using hg, rfl⟩
theorem fieldAddr_snd (hT : TabOk P cx) (r : Rel env n0 M h w) {v : V} {x : Value} (hv : VR env M v x) (t : TypeId) (f : Nat) :
    SndV env n0 P M h w (vfieldAddr (tk cx t) cx v f) (Instr.fieldAt t x f) := by
  have hk := tk_ok hT t
  cases hkk : tk cx t with
  | struct fs =>
    rw [hkk] at hk
    obtain ⟨fields, hu, hfs⟩ := hk
    show SndV env n0 P M h w (fieldAddr1 v cx (fldAt fs f)) _
    cases hv with
    | p b o pl hM =>
      show SndV env n0 P M h w (fieldAddr2 (fldAt fs f) cx b o) _
      cases hf : fldAt fs f with
      | none => exact Snd.bad
      | some y =>
        obtain ⟨fd, hfd, rfl⟩ := field_of hfs hf
        show SndV env n0 P M h w (fld (tsize cx fd.type) fd.offset b o) _
        cases hs : tsize cx fd.type with
        | none => exact Snd.bad
        | some n => cases n with
          | zero => exact Snd.bad
          | succ n =>
            have hsz := tsize_ok hT hs w
            refine Snd.ret r ?_ (VR.p b (o + fd.offset) pl hM)
            simp only [Instr.fieldAt, Sem.run_bind, run_und hu, Result.andThen_ok, hfd, Instr.sureAddr, pure_bind, fieldPlace, hsz, Nat.add_one_ne_zero, if_false, Sem.run_pure, add_eq, Nat.add_assoc]
    | _ => exact Snd.bad
  | _ => exact Snd.bad
theorem part_snd (hT : TabOk P cx) (r : Rel env n0 M h w) {cs : List V} {c : Array Value} (hc : VRs env M cs c.toList) (t : TypeId) (off : Nat) :
    SndV env n0 P M h w (vpart (cx.ty.get t) cs off) (part t c off) := by
  cases ht : cx.ty.get t with
  | none => exact Snd.bad
  | some ti =>
    have ok := hT t ti ht
    have ha := ok.run_isAgg (w := w)
    show SndV env n0 P M h w (match ti.ag with | true => .ret (.agg ((cs.drop off).take ti.size)) | false => retO (nth cs off)) _
    cases hag : ti.ag with
    | true =>
      rw [hag] at ha
      refine Snd.ret r ?_ (VR.agg _ (c.extract off (off + ti.size)) ?_)
      · simp only [part, Sem.run_bind, ha, Result.andThen_ok, if_true, ok.run_size, Sem.run_pure]
      · have := (hc.drop off).take ti.size
        simpa [List.extract_eq_take_drop] using this
    | false =>
      rw [hag] at ha
      show SndV env n0 P M h w (retO (nth cs off)) _
      rw [nth_eq]
      cases hg : cs[off]? with
      | none => exact Snd.bad
      | some v =>
        obtain ⟨x, x1, x2⟩ := hc.get _ _ hg
        refine Snd.ret r ?_ x2
        have x1' : c[off]? = some x := by simpa using x1
        simp only [part, Sem.run_bind, ha, Result.andThen_ok, Bool.false_eq_true, if_false, x1', Sem.run_pure]
theorem field_snd (hT : TabOk P cx) (r : Rel env n0 M h w) {v : V} {x : Value} (hv : VR env M v x) (t : TypeId) (f : Nat) :
    SndV env n0 P M h w (vfield (tk cx t) cx v f) (Instr.field t x f) := by
  have hk := tk_ok hT t
  cases hkk : tk cx t with
  | struct fs =>
    rw [hkk] at hk
    obtain ⟨fields, hu, hfs⟩ := hk
    show SndV env n0 P M h w (vfield2 v cx (fldAt fs f)) _
    cases hv with
    | agg l c hc =>
      show SndV env n0 P M h w (match fldAt fs f with | some f => vpart (cx.ty.get f.1) l f.2.1 | none => .bad 17) _
      cases hf : fldAt fs f with
      | none => exact Snd.bad
      | some y =>
        obtain ⟨fd, hfd, rfl⟩ := field_of hfs hf
        have := part_snd hT r hc fd.type fd.offset (P := P)
        intro nx lg a h' nx' lg' hn e
        obtain ⟨M', w', x, y1, y2⟩ := this nx lg a h' nx' lg' hn e
        refine ⟨M', w', x, ?_, y2⟩
        simp only [Instr.field, Sem.run_bind, run_und hu, Result.andThen_ok, hfd, asAgg, pure_bind, y1]
    | _ => exact Snd.bad
  | _ => exact Snd.bad

/-! ### places of elements -/
theorem asN_eq {v : V} {i : Int} (e : asN v = some i) : ∃ k, v = .i k (.c i) := by
  match v, e with
  | .i k (.c n), e => cases e; exact ⟨k, rfl⟩
theorem asN_of {v : V} {x : Value} (hv : VR env M v x) {i : Int} (e : asN v = some i) : ∃ k, x = .int k i := by
  obtain ⟨k, rfl⟩ := asN_eq e
  cases hv
  exact ⟨k, rfl⟩
theorem below_eq (i : Int) (n : Nat) : below i n = true ↔ 0 ≤ i ∧ i < n := by
  cases i with
  | ofNat m => show Nat.ble (m + 1) n = true ↔ _; rw [RL.ble_dec]; simp; omega
  | negSucc m => exact ⟨(fun e => by cases e), (fun e => by have := e.1; omega)⟩
theorem upto_eq (i : Int) (n : Nat) : upto i n = true ↔ 0 ≤ i ∧ i ≤ n := by
  cases i with
  | ofNat m => show Nat.ble m n = true ↔ _; rw [RL.ble_dec]; simp
  | negSucc m => exact ⟨(fun e => by cases e), (fun e => by have := e.1; omega)⟩
theorem idx2_snd (hT : TabOk P cx) (r : Rel env n0 M h w) {b o len : Nat} {i : Int} {e : TypeId} {pl : Pl} {a : Addr} (hM : M b = some pl) (hp : 0 < len → a = ⟨pl.blk, pl.off + o, none⟩) {s : Sem Value}
    (hs : ∀ n, (sizeOf e).run P w = .ok n w → 0 ≤ i ∧ i < len → s.run P w = .ok (.pointer (some (a.add (i.toNat * n)))) w) :
    SndV env n0 P M h w (idx2 (tsize cx e) b o len i) s := by
  cases hz : tsize cx e with
  | none => exact Snd.bad
  | some n =>
    show SndV env n0 P M h w (match below i len with | true => .ret (.p (some (b, Nat.add o (Nat.mul i.toNat n)))) | false => .bad 7) _
    cases hb : below i len with
    | false => exact Snd.bad
    | true =>
      have hi := (below_eq i len).1 hb
      have ha := hp (by omega)
      refine Snd.ret r (hs n (tsize_ok hT hz w) hi) ?_
      rw [ha, add_eq, Nat.add_assoc]
      exact VR.p b (o + i.toNat * n) pl hM
theorem indexAddr_snd (hT : TabOk P cx) (r : Rel env n0 M h w) {v ix : V} {x ix' : Value} (hv : VR env M v x) (hi : VR env M ix ix') (t : TypeId) :
    SndV env n0 P M h w (vindexAddr (tk cx t) cx v ix) (Instr.indexAt t x ix') := by
  have hk := tk_ok hT t
  cases hkk : tk cx t with
  | slice e =>
    rw [hkk] at hk
    show SndV env n0 P M h w (idxSl v cx e (asN ix)) _
    cases hv with
    | sl b o l c c' pl a hM h1 h2 h3 h4 =>
      show SndV env n0 P M h w (match asN ix with | some i => idx2 (tsize cx e) b o l i | none => .bad 9) _
      cases hn : asN ix with
      | none => exact Snd.bad
      | some i =>
        obtain ⟨k, rfl⟩ := asN_of hi hn
        refine idx2_snd hT r hM (fun hl => h3.resolve_right (by omega)) fun n hsz hb => ?_
        have hu : P.underlying t = some (.slice e) := hk
        simp only [Instr.indexAt, Sem.run_bind, asIntOf, Result.andThen_ok, run_und hu, pure_bind]
        rw [if_pos (by simpa using hb)]
        simp only [Sem.run_bind, hsz, Result.andThen_ok, Sem.run_pure]
    | _ => exact Snd.bad
  | array len e =>
    rw [hkk] at hk
    show SndV env n0 P M h w (idxAr v cx len e (asN ix)) _
    cases hv with
    | p b o pl hM =>
      show SndV env n0 P M h w (match asN ix with | some i => idx2 (tsize cx e) b o len i | none => .bad 9) _
      cases hn : asN ix with
      | none => exact Snd.bad
      | some i =>
        obtain ⟨k, rfl⟩ := asN_of hi hn
        refine idx2_snd hT r hM (fun hl => rfl) fun n hsz hb => ?_
        have hu : P.underlying t = some (.array len e) := hk
        simp only [Instr.indexAt, Sem.run_bind, asIntOf, Result.andThen_ok, run_und hu, pure_bind, Instr.sureAddr]
        rw [if_pos (by simpa using hb)]
        simp only [Sem.run_bind, hsz, Result.andThen_ok, Sem.run_pure]
    | _ => exact Snd.bad
  | _ => exact Snd.bad
end ops
end Go.Vm
