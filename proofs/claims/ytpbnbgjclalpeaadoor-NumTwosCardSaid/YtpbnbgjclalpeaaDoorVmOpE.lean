/- VM: its operations are the model's, one by one (fifth part): append and copy. -/
import Derived.Test.YtpbnbgjclalpeaaDoorVmOpD
set_option linter.unusedVariables false
set_option linter.unusedSimpArgs false
namespace Go.Vm
open Go.RowKit
open Go.Builtin (zeroCells nextslicecap growBy lenOf firstCells)
section ops
variable {env : Nat → Int} {n0 : Nat} {P : Program} {M : Mp} {h : Tr Ob} {w : World} {cx : Cx}

theorem growBy_le (newLen : Nat) : ∀ (r c : Nat), growBy newLen r c + 768 ≤ 2 ^ r * (c + 768)
  | 0, c => by simp [growBy]
  | r + 1, c => by
    simp only [growBy]
    split
    · have : 1 ≤ 2 ^ (r + 1) := Nat.one_le_two_pow
      exact Nat.le_mul_of_pos_left _ (by omega)
    · have := growBy_le newLen r (c + (c + 768) / 4)
      have h2 : c + (c + 768) / 4 + 768 ≤ 2 * (c + 768) := by omega
      calc _ ≤ 2 ^ r * (c + (c + 768) / 4 + 768) := this
        _ ≤ 2 ^ r * (2 * (c + 768)) := Nat.mul_le_mul_left _ h2
        _ = 2 ^ (r + 1) * (c + 768) := by rw [Nat.pow_succ, Nat.mul_assoc]
theorem nextcap_le {need old : Nat} (h : old < need) (hn : need ≤ 1048576) : nextslicecap need old ≤ 33554432 := by
  unfold nextslicecap
  split
  · omega
  · split
    · omega
    · have := growBy_le need 4 old
      have e : 2 ^ 4 = 16 := rfl
      rw [e] at this
      omega
theorem small_bytes {need old bytes : Nat} (h : old < need) (hn : need ≤ 1048576) (hb : bytes ≤ 4096) : ¬ (nextslicecap need old * bytes > 2 ^ 48) := by
  have := Nat.mul_le_mul (nextcap_le h hn) hb
  omega

/-- The world behind a draw of a capacity. -/
def drawn1 (w : World) : World := { w with drawn := w.drawn + 1 }
theorem drawn1_below (w : World) (n : Nat) : Below n w (drawn1 w) := ⟨rfl, rfl, rfl, Nat.le_refl _, fun _ _ => rfl⟩
def newCapOf (w : World) (need old : Nat) (e : TypeId) : Nat := (Question.appendCap need old e).cut (w.tape w.drawn (.appendCap need old e))
theorem newCap_ge (w : World) (need old : Nat) (e : TypeId) : need ≤ newCapOf w need old e := by
  show need ≤ need + _
  omega

section core
variable {st xt e : TypeId} {tys : Array TypeId} {ty : TypeId} {base : Option Addr} {len cap m : Nat} {x z : Value} {xs olds : List Value} {i : TypeInfo}
/-- What the model's append does where there is room, and where not: of a slice or a string. -/
theorem append_room (hu : P.underlying st = some (.slice e)) (hi : P.info? e = some i) (h0 : tys[0]? = some st) (h1 : tys[1]? = some xt) {d : TypeDesc} (hd : P.underlying xt = some d) (hnd : ∀ k, d ≠ .int k)
    (hl : lenOf x = pure m) (hx : (firstCells i.size m x).run P w = .ok xs.toArray w) (hroom : len + m ≤ cap) :
    (Builtin.append_ tys ty #[.slice base len cap, x]).run P w = ((match base with | some a => storeCells (a.add (len * i.size)) xs | none => pure () : Sem Unit).run P w).andThen fun _ w' => .ok (.slice base (len + m) cap) w' := by
  unfold Builtin.append_
  simp only [h0, Sem.run_bind, List.getElem?_toArray, List.getElem?_cons_zero, List.getElem?_cons_succ, run_und hu, Result.andThen_ok, sizeOf, typeInfo, run_program, hi, Sem.run_pure, h1, run_und hd]
  rw [if_neg (by simp), hl]
  simp only [pure_bind]
  rw [if_pos hroom]
  cases base <;> simp [hx]
theorem append_grow (hu : P.underlying st = some (.slice e)) (hi : P.info? e = some i) (hz : i.zero = some z) (h0 : tys[0]? = some st) (h1 : tys[1]? = some xt) {d : TypeDesc} (hd : P.underlying xt = some d) (hnd : ∀ k, d ≠ .int k)
    (hl : lenOf x = pure m) (hx : (firstCells i.size m x).run P (drawn1 w) = .ok xs.toArray (drawn1 w)) (ho : (firstCells i.size len (.slice base len cap)).run P (drawn1 w) = .ok olds.toArray (drawn1 w))
    (hgrow : cap < len + m) (hsmall : len + m ≤ 1048576) (hby : i.bytes ≤ 4096) :
    (Builtin.append_ tys ty #[.slice base len cap, x]).run P w = .ok (.slice (some ⟨w.heap.size, 0, none⟩) (len + m) (newCapOf w (len + m) cap e))
      { drawn1 w with heap := w.heap.push (.cells (olds.toArray ++ xs.toArray ++ zeroCells z.cells (newCapOf w (len + m) cap e - (len + m))) e (0, 0)) } := by
  have hb := small_bytes hgrow hsmall hby
  have hn : ¬ (len + m ≤ cap) := by omega
  have hmax : ∀ q : Prop, ¬ (((len + m : Nat) : Int) > IntKind.i64.max ∧ q) := by
    intro q hc
    have : IntKind.i64.max = 9223372036854775807 := by decide
    omega
  have hch : (choose (.appendCap (len + m) cap e)).run P w = .ok (newCapOf w (len + m) cap e) (drawn1 w) := by
    rw [run_choose]; rfl
  unfold Builtin.append_
  simp only [h0, Sem.run_bind, List.getElem?_toArray, List.getElem?_cons_zero, List.getElem?_cons_succ, run_und hu, Result.andThen_ok, sizeOf, typeInfo, run_program, hi, Sem.run_pure, h1, run_und hd]
  rw [if_neg (by simp), hl]
  simp only [pure_bind]
  rw [if_neg hn]
  simp only [Sem.run_bind, run_program, Result.andThen_ok, hi, Sem.run_pure]
  rw [if_neg (hmax _)]
  simp only [Sem.run_bind, run_program, Result.andThen_ok, hi, Sem.run_pure]
  rw [if_neg hb]
  simp only [Sem.run_bind, hch, Result.andThen_ok, run_program, hi, Sem.run_pure, run_askRoom, ho, Bool.not_false, if_true, hx, zeroValue, typeInfo, hz, newRow, run_newObj]
  rfl
/-- And of so many zero values ('make' within an append). -/
theorem appendz_room (hu : P.underlying st = some (.slice e)) (hi : P.info? e = some i) (hz : i.zero = some z) (h0 : tys[0]? = some st) (h1 : tys[1]? = some xt) {k j : IntKind} (hd : P.underlying xt = some (.int k))
    (hm : m ≤ 1048576) (hby : i.bytes ≤ 4096) (hzs : z.cells.size = i.size) (hroom : len + m ≤ cap) :
    (Builtin.append_ tys ty #[.slice base len cap, .int j m]).run P w = ((match base with | some a => storeCells (a.add (len * i.size)) (zeroCells z.cells m).toList | none => pure () : Sem Unit).run P w).andThen fun _ w' => .ok (.slice base (len + m) cap) w' := by
  have hw : IntKind.i64.wrap (m : Int) = m := wrap64_id (by omega) (by omega)
  have hsm : ¬ ((m : Int) * i.bytes > 2 ^ 48) := by
    have : m * i.bytes ≤ 1048576 * 4096 := Nat.mul_le_mul hm hby
    have h2 : ((m * i.bytes : Nat) : Int) ≤ ((1048576 * 4096 : Nat) : Int) := by exact_mod_cast this
    simp only [Int.natCast_mul] at h2
    omega
  have happ : ∀ w, (if m * i.size = 0 then pure #[] else (do let __do_lift ← zeroValue e; pure (zeroCells __do_lift.cells m)) : Sem (Array Value)).run P w = .ok (zeroCells z.cells m) w := by
    intro w
    by_cases h0 : m * i.size = 0
    · rw [if_pos h0]
      have : zeroCells z.cells m = #[] := by simp [zeroCells, hzs, h0]
      rw [this]; rfl
    · rw [if_neg h0]
      simp only [Sem.run_bind, zeroValue, typeInfo, run_program, Result.andThen_ok, hi, Sem.run_pure, hz]
  unfold Builtin.append_
  simp only [h0, Sem.run_bind, List.getElem?_toArray, List.getElem?_cons_zero, List.getElem?_cons_succ, run_und hu, Result.andThen_ok, sizeOf, typeInfo, run_program, hi, Sem.run_pure, h1, run_und hd]
  rw [if_pos trivial]
  simp only [asInt, asIntOf, pure_bind, hw]
  rw [if_neg (by omega)]
  simp only [Sem.run_bind, run_program, Result.andThen_ok, hi, Sem.run_pure]
  rw [if_neg hsm]
  simp only [Int.toNat_natCast]
  rw [if_pos hroom]
  simp only [Bool.not_true, Bool.false_eq_true, if_false, Sem.run_bind, happ, Result.andThen_ok]
  cases base <;> simp
theorem appendz_grow (hu : P.underlying st = some (.slice e)) (hi : P.info? e = some i) (hz : i.zero = some z) (h0 : tys[0]? = some st) (h1 : tys[1]? = some xt) {k j : IntKind} (hd : P.underlying xt = some (.int k))
    (hm : m ≤ 1048576) (hby : i.bytes ≤ 4096) (hzs : z.cells.size = i.size) (ho : (firstCells i.size len (.slice base len cap)).run P (drawn1 w) = .ok olds.toArray (drawn1 w))
    (hgrow : cap < len + m) (hsmall : len + m ≤ 1048576) :
    (Builtin.append_ tys ty #[.slice base len cap, .int j m]).run P w = .ok (.slice (some ⟨w.heap.size, 0, none⟩) (len + m) (newCapOf w (len + m) cap e))
      { drawn1 w with heap := w.heap.push (.cells (olds.toArray ++ zeroCells z.cells m ++ zeroCells z.cells (newCapOf w (len + m) cap e - (len + m))) e (0, 0)) } := by
  have hw : IntKind.i64.wrap (m : Int) = m := wrap64_id (by omega) (by omega)
  have hsm : ¬ ((m : Int) * i.bytes > 2 ^ 48) := by
    have : m * i.bytes ≤ 1048576 * 4096 := Nat.mul_le_mul hm hby
    have h2 : ((m * i.bytes : Nat) : Int) ≤ ((1048576 * 4096 : Nat) : Int) := by exact_mod_cast this
    simp only [Int.natCast_mul] at h2
    omega
  have hb := small_bytes hgrow hsmall hby
  have hn : ¬ (len + m ≤ cap) := by omega
  have hmax : ∀ q : Prop, ¬ (((len + m : Nat) : Int) > IntKind.i64.max ∧ q) := by
    intro q hc
    have : IntKind.i64.max = 9223372036854775807 := by decide
    omega
  have hch : (choose (.appendCap (len + m) cap e)).run P w = .ok (newCapOf w (len + m) cap e) (drawn1 w) := by
    rw [run_choose]; rfl
  have happ : ∀ w, (if m * i.size = 0 then pure #[] else (do let __do_lift ← zeroValue e; pure (zeroCells __do_lift.cells m)) : Sem (Array Value)).run P w = .ok (zeroCells z.cells m) w := by
    intro w
    by_cases h0 : m * i.size = 0
    · rw [if_pos h0]
      have : zeroCells z.cells m = #[] := by simp [zeroCells, hzs, h0]
      rw [this]; rfl
    · rw [if_neg h0]
      simp only [Sem.run_bind, zeroValue, typeInfo, run_program, Result.andThen_ok, hi, Sem.run_pure, hz]
  unfold Builtin.append_
  simp only [h0, Sem.run_bind, List.getElem?_toArray, List.getElem?_cons_zero, List.getElem?_cons_succ, run_und hu, Result.andThen_ok, sizeOf, typeInfo, run_program, hi, Sem.run_pure, h1, run_und hd]
  rw [if_pos trivial]
  simp only [asInt, asIntOf, pure_bind, hw]
  rw [if_neg (by omega)]
  simp only [Sem.run_bind, run_program, Result.andThen_ok, hi, Sem.run_pure]
  rw [if_neg hsm]
  simp only [Int.toNat_natCast]
  rw [if_neg hn]
  simp only [Sem.run_bind, run_program, Result.andThen_ok, hi, Sem.run_pure]
  rw [if_neg (hmax _)]
  simp only [Sem.run_bind, run_program, Result.andThen_ok, hi, Sem.run_pure]
  rw [if_neg hb]
  simp only [Sem.run_bind, hch, Result.andThen_ok, run_program, hi, Sem.run_pure, run_askRoom, ho, Bool.not_true, Bool.false_eq_true, if_false, happ]
  simp only [zeroValue, typeInfo, Sem.run_bind, run_program, Result.andThen_ok, hi, Sem.run_pure, hz, newRow, run_newObj]
  rfl
end core

theorem VR.sl_inv {a : Option (Nat × Nat)} {l c : Nat} {x : Value} (hv : VR env M (.sl a l c) x) : ∃ b' c', x = .slice b' l c' ∧ c ≤ c' ∧ (a = none → b' = none ∧ c' = c) := by
  cases hv with
  | sn l c => exact ⟨none, c, rfl, Nat.le_refl _, fun _ => ⟨rfl, rfl⟩⟩
  | sl b o l c c' pl a h1 h2 h3 h4 h5 => exact ⟨some a, c', rfl, h2, fun e => by cases e⟩
theorem ones_of {l : List V} {xs : List Value} (hx : VRs env M l xs) (ho : ∀ v ∈ l, oneC v = true) : ∀ x ∈ xs, oneCell x := by
  intro x hx'
  obtain ⟨i, hi⟩ := List.getElem?_of_mem hx'
  have hl := hx.length
  have hv : l[i]? = some (l[i]'(by have := (List.getElem?_eq_some_iff.1 hi).1; omega)) := List.getElem?_eq_getElem _
  obtain ⟨y, y1, y2⟩ := hx.get i _ hv
  rw [hi] at y1; cases y1
  exact one_of y2 (ho _ (List.getElem_mem _))
/-- An append: what the VM does and what the model does, told by its two arms. -/
theorem appGo_snd (r : Rel env n0 M h w) {base : Option (Nat × Nat)} {len cap : Nat} {s' : Value} (hs : VR env M (.sl base len cap) s') {n m : Nat} {new : RL V} {xs : List Value} (hx : VRs env M new.toList xs) (hxl : xs.length = m * n)
    {e e' : TypeId} {F : Sem Value}
    (R : ∀ (b' : Option Addr) (c' : Nat), s' = .slice b' len c' → len + m ≤ c' → F.run P w = ((match b' with | some a => storeCells (a.add (len * n)) xs | none => pure () : Sem Unit).run P w).andThen fun _ w' => .ok (.slice b' (len + m) c') w')
    (G : ∀ (b' : Option Addr) (c' : Nat) (olds : List Value), s' = .slice b' len c' → c' < len + m → len + m ≤ 1048576 → (firstCells n len (.slice b' len c')).run P (drawn1 w) = .ok olds.toArray (drawn1 w) →
      ∃ (newCap : Nat) (rest : Array Value), len + m ≤ newCap ∧ rest.size = (newCap - (len + m)) * n ∧ F.run P w = .ok (.slice (some ⟨w.heap.size, 0, none⟩) (len + m) newCap) { drawn1 w with heap := w.heap.push (.cells (olds.toArray ++ xs.toArray ++ rest) e' (0, 0)) }) :
    SndV env n0 P M h w (appGo e base len cap n m new) F := by
  unfold appGo
  cases hle : Nat.ble (Nat.add len m) cap with
  | true =>
    have hle : len + m ≤ cap := Nat.le_of_ble_eq_true hle
    cases hs with
    | sn _ _ =>
      refine Snd.ret r ?_ (VR.sn _ _)
      rw [R none cap rfl hle]
      rfl
    | sl b o _ _ c' pl a' hM h1 h2 h3 h4 =>
      have hr := R (some a') c' rfl (by omega)
      intro nx lg a h' nx' lg' hn er
      obtain ⟨el, es, ex, cs, g1, g2, g3, g4, g5⟩ := run_sets er
      obtain ⟨e4, e5⟩ := run_ret g5
      cases e5; subst e4
      obtain ⟨w', s1, s2, s3⟩ := sets_write (P := P) r g1 hM g2 g3 g4 hx
      refine ⟨M, w', _, ?_, M.le_refl, s2, VR.sl b o (len + m) cap c' pl a' hM h1 h2 h3 (by omega), s3, hn⟩
      rw [hr]
      have : (storeCells (a'.add (len * n)) xs).run P w = .ok () w' := by
        rcases h3 with e0 | e0
        · rw [e0, add_eq]
          have : pl.off + o + len * n = pl.off + (o + len * n) := by omega
          rw [this]; exact s1
        · have hxs : xs = [] := by
            have : m = 0 := by omega
            subst this
            rw [Nat.zero_mul] at hxl
            exact List.length_eq_zero_iff.1 hxl
          subst hxs
          have e6 : w' = w := by
            have := s1
            simp only [storeCells] at this
            cases this; rfl
          rw [e6]; rfl
      simp only [this, Result.andThen_ok]
  | false =>
    cases hsm : Nat.ble (Nat.add len m) 1048576 with
    | false => exact Snd.bad
    | true =>
      have hsm : len + m ≤ 1048576 := Nat.le_of_ble_eq_true hsm
      have hgr : cap < len + m := by
        rw [RL.ble_dec] at hle
        have := of_decide_eq_false hle
        exact Nat.lt_of_not_le this
      cases hs with
      | sn _ _ =>
        show SndV env n0 P M h w (match Nat.beq len 0 with | true => appMk e n m new | false => .bad 37) F
        cases hl0 : Nat.beq len 0 with
        | false => exact Snd.bad
        | true =>
          have hl0 : len = 0 := Nat.eq_of_beq_eq_true hl0
          subst hl0
          obtain ⟨newCap, rest, p1, p2, p3⟩ := G none cap [] rfl hgr hsm rfl
          rw [Nat.zero_add] at p1 p2 p3
          refine row_slice r hx rest e e' n false (by simp) m m newCap (Nat.le_refl _) p1 ?_ (w1 := drawn1 w) rfl (drawn1_below w n0) ?_
          · rw [p2, hxl, ← Nat.add_mul]; exact Nat.mul_le_mul_right _ (by omega)
          · rw [p3]; simp
      | sl b o _ _ c' pl a' hM h1 h2 h3 h4 =>
        intro nx lg a h' nx' lg' hn er
        obtain ⟨el, es, ex, cs, g1, g2, g3⟩ := run_rows er
        obtain ⟨el2, es2, ex2, cs2, k1, k2⟩ := run_info' g3
        rw [g1] at k1; cases k1
        have k2' : (Bool.rec (.bad 38) (appKill b (appMk e n (len + m) (RL.app ((cs.drop o).take (len * n)) new)) (ex && Nat.beq (o + cap * n) cs.toList.length)) ((Nat.beq n es && Nat.ble 1 n) && allOne new) : Pr V).run h nx ((lg.rd b).rd b) = .ok a (.mk h' nx' lg') := k2
        cases hne : ((Nat.beq n es && Nat.ble 1 n) && allOne new) with
        | false => rw [hne] at k2'; exact (run_bad k2').elim
        | true =>
        rw [hne] at k2'
        obtain ⟨hne0, hne3⟩ := and_true hne
        obtain ⟨hne1, hne2⟩ := and_true hne0
        have hnes : n = es := Nat.eq_of_beq_eq_true hne1
        have hn1 : 1 ≤ n := Nat.le_of_ble_eq_true hne2
        obtain ⟨pl', c, el', fz, m1, m2, m3, m4, m5⟩ := r.live g1
        rw [hM] at m1; cases m1
        obtain ⟨olds, o1, o2, o3, o4⟩ := m3.loads (P := P) o (len * n) g2
        have hcat : VRs env M (RL.app ((cs.drop o).take (len * n)) new).toList (olds ++ xs) := by
          rw [RL.toList_app, RL.toList_take, RL.toList_drop]; exact o2.append hx
        have hcl : (olds ++ xs).length = (len + m) * n := by rw [List.length_append, o1, hxl, Nat.add_mul]
        have hold : (firstCells n len (.slice (some a') len c')).run P (drawn1 w) = .ok olds.toArray (drawn1 w) := by
          have hrun : ∀ w1 : World, w1.heap = w.heap → (loadCells ⟨pl.blk, pl.off + o, none⟩ (len * n)).run P w1 = .ok olds.toArray w1 := by
            intro w1 hw1
            have m3' : Row env M w1 pl ex cs c el' fz := ⟨by rw [hw1]; exact m3.heap, m3.size, m3.len, m3.cell, m3.free, m3.full⟩
            rw [← o1]
            refine loadCells_run _ olds ?_
            intro j x e
            rw [add_eq, cell_of pl _ m3'.heap]
            exact o4 j x e
          show (loadCells a' (len * n)).run P (drawn1 w) = _
          rcases h3 with e0 | e0
          · rw [e0]; exact hrun _ rfl
          · have hl0 : len = 0 := by omega
            subst hl0
            have : olds = [] := by rw [Nat.zero_mul] at o1; exact List.length_eq_zero_iff.1 o1
            subst this
            rw [Nat.zero_mul]; rfl
        -- the arm that grows
        have grow : c' < len + m → ∀ (h1 : Tr Ob) (lg1 : Lg), Rel env n0 M h1 w → (appMk e n (len + m) (RL.app ((cs.drop o).take (len * n)) new)).run h1 nx lg1 = .ok a (.mk h' nx' lg') →
            ∃ M' w' x, F.run P w = .ok x w' ∧ M.le M' ∧ Rel env n0 M' h' w' ∧ VR env M' a x ∧ Below n0 w w' ∧ RO ≤ nx' := by
          intro hc h1 lg1 r1 e1
          obtain ⟨newCap, rest, p1, p2, p3⟩ := G (some a') c' olds rfl hc hsm hold
          have := row_slice (P := P) (s := F) r1 hcat rest e e' n false (by simp) (len + m) (len + m) newCap (Nat.le_refl _) p1 (by rw [p2, hcl, ← Nat.add_mul]; exact Nat.mul_le_mul_right _ (by omega)) (w1 := drawn1 w) rfl (drawn1_below w n0) (by rw [p3]; simp)
          exact this nx lg1 a h' nx' lg' hn e1
        cases hfull : (ex && Nat.beq (o + cap * n) cs.toList.length) with
        | true =>
          rw [hfull] at k2'
          obtain ⟨f1, f2⟩ := and_true hfull
          have f3 : o + cap * n = cs.toList.length := Nat.eq_of_beq_eq_true f2
          have f4 := m3.full f1
          have hcc : c' ≤ cap := by
            have : c' * n ≤ cap * n := by rw [hnes, ← m2] at f3 ⊢; omega
            exact Nat.le_of_mul_le_mul_right this (by omega)
          exact grow (by omega) h _ r k2'
        | false =>
          rw [hfull] at k2'
          obtain ⟨el3, es3, ex3, cs3, q1, q2, q3⟩ := run_kill k2'
          rw [g1] at q1; cases q1
          have rk := r.kill g1
          by_cases hc : len + m ≤ c'
          · -- the model's row has room: the new row takes it over
            have hr := R (some a') c' rfl hc
            obtain ⟨z1, z2⟩ := run_new q3
            obtain ⟨e4, e5⟩ := run_ret z2
            cases e5; subst e4
            have ha' : a' = ⟨pl.blk, pl.off + o, none⟩ := h3.resolve_right (by omega)
            have hsz := m3.size
            have hmn : (len + m) * n ≤ c' * pl.es := by rw [m2, ← hnes]; exact Nat.mul_le_mul_right _ hc
            have hadd : (len + m) * n = len * n + m * n := Nat.add_mul ..
            have hxo : ∀ x ∈ xs, oneCell x := ones_of hx (allOne_eq _ hne3)
            obtain ⟨w', s1, s2, s3, s4, s5⟩ := storeCells_run (P := P) pl.blk el' fz (pl.off + o + len * n) xs 0 w c m3.heap (by omega) (m3.free (m4 q2).2) hxo
            have hMn := rk.dom nx z1
            refine ⟨M.add nx ⟨pl.blk, pl.off + o, pl.sz, n, false⟩, w', .slice (some a') (len + m) c', ?_, Mp.le_add hMn, ?_, ?_, s5 n0 r.size (m4 q2).1, by omega⟩
            · rw [hr, ha']
              show ((storeCells ((⟨pl.blk, pl.off + o, none⟩ : Addr).add (len * n)) xs).run P w).andThen _ = _
              rw [add_eq, s1]
              rfl
            · refine rk.take z1 hn hM q2 (by rw [Tr.get_set, if_pos rfl]) ?_ s4 s3 rfl rfl ?_
              · intro k ob p hk hal hro hMk heq
                rw [Tr.get_set] at hk
                by_cases ek : k = b
                · rw [if_pos ek] at hk; cases hk; cases hal
                · rw [if_neg ek] at hk
                  exact ek (r.inj k b ob _ p pl hk g1 hal rfl hro q2 hMk hM heq)
              · have hlt : (RL.app ((cs.drop o).take (len * n)) new).toList.length = (len + m) * n := by rw [hcat.length, hcl]
                refine OR.live (pl := ⟨pl.blk, pl.off + o, pl.sz, n, false⟩) e false _ (lay c (pl.off + o + len * n + 0) xs) el' fz s2 (by rw [lay_size]; exact hsz) (by show pl.off + o + _ ≤ pl.sz; omega) ?_ (fun _ => by rw [lay_size]; exact m3.free (m4 q2).2) (by simp)
                intro i v hv
                have hv2 := (hcat.mono (Mp.le_add hMn (pl := ⟨pl.blk, pl.off + o, pl.sz, n, false⟩))).get i v hv
                obtain ⟨x, x1, x2⟩ := hv2
                refine ⟨x, ?_, x2⟩
                show (lay c (pl.off + o + len * n + 0) xs)[pl.off + o + i]? = some x
                rw [lay_get xs c _ _ (by omega)]
                by_cases hi : i < len * n
                · rw [if_neg (by omega)]
                  rw [List.getElem?_append_left (by omega)] at x1
                  exact o4 i x x1
                · have hi2 : i < (len + m) * n := by rw [← hcl]; exact (List.getElem?_eq_some_iff.1 x1).1
                  rw [if_pos (by omega)]
                  rw [List.getElem?_append_right (by omega)] at x1
                  rw [← x1]; congr 1; omega
            · exact VR.sl nx 0 (len + m) (len + m) c' ⟨pl.blk, pl.off + o, pl.sz, n, false⟩ a' (add_self _ _ _) hc (by show pl.off + o + 0 + c' * n ≤ pl.sz; rw [m2, ← hnes] at h2; omega) (.inl ha') (Nat.le_refl _)
          · exact grow (by omega) _ _ rk q3
end ops
end Go.Vm
