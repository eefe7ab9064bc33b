/- The law SliceNone: its call answers true. -/
import Derived.Test.YtgfnepigepnapaaGreatDoorSliceP
import Derived.Test.YtgfnepigepnapaaGreatDoorReg0
set_option linter.unusedVariables false
namespace Go.Vm.Sl
open Go.Vm Go.Proofs Go.RowKit Go.Sep
theorem begun_c (w : World) : Calls Tryz.prog 18 #[] w fun e w' => e = .returned (.bool true) ∧ Below w.heap.size w w' :=
  tree_calls (cx := cx0) hT_0 mixed_ok (hF_0 _) (by decide) (env := fun _ => 0) (d := .leaf (.c true)) run18 rfl (rel_nil _ w) .nil
def St (n0 : Old) (ip cp : Pl) (w : World) : Prop := ∃ k env M, k < 33 ∧ M 64 = some ip ∧ M 97 = some cp ∧ Rel env n0 M (TQ k) w
theorem St.mk {k : Nat} {env : Nat → Int} {M : Mp} {n0 : Old} {ip cp : Pl} {w : World} (hk : k < 33) (hi : M 64 = some ip) (hc : M 97 = some cp) (R : Rel env n0 M (TQ k) w) : St n0 ip cp w := ⟨k, env, M, hk, hi, hc, R⟩
theorem St.step {n0 : Old} {ip cp : Pl} {w : World} (h : St n0 ip cp w) : Calls Tryz.prog 37 #[.pointer (some ⟨ip.blk, ip.off, none⟩), .pointer (some ⟨cp.blk, cp.off, none⟩)] w fun e w' => e = .returned (.tuple #[]) ∧ Below n0.n w w' ∧ St n0 ip cp w' := by
  obtain ⟨k, env, M, hk, hi, hc, R⟩ := h
  exact (st_all k hk env n0 M w ip cp hi hc R).mono fun e w' ⟨h1, h2, k', env', M', h3, h4, h5, h6⟩ => ⟨h1, h2, k', env', M', h3, h4, h5, h6⟩
/-- What the config's cells are. -/
theorem St.cfg {n0 : Old} {ip cp : Pl} {w : World} (h : St n0 ip cp w) : ∃ A0 l0 c0 A1 l1 c1 b e A4 l4 c4, w.cell? ⟨cp.blk, cp.off, none⟩ = some (.slice A0 l0 c0) ∧ w.cell? ⟨cp.blk, cp.off + 1, none⟩ = some (.slice A1 l1 c1) ∧ w.cell? ⟨cp.blk, cp.off + 2, none⟩ = some (.bool b) ∧
    w.cell? ⟨cp.blk, cp.off + 3, none⟩ = some (.int .i64 e) ∧ w.cell? ⟨cp.blk, cp.off + 4, none⟩ = some (.slice A4 l4 c4) := by
  obtain ⟨k, env, M, hk, hi, hc, R⟩ := h
  have ok := ok_all k hk
  simp only [okCfg, Bool.and_eq_true] at ok
  obtain ⟨⟨⟨⟨o0, o1⟩, o2⟩, o3⟩, o4⟩ := ok
  have sl : ∀ j, isSlO (cellT (TQ k) 97 j) = true → ∃ A l c, w.cell? ⟨cp.blk, cp.off + j, none⟩ = some (.slice A l c) := by
    intro j o
    cases hv : cellT (TQ k) 97 j with
    | none => rw [hv] at o; cases o
    | some v =>
      rw [hv] at o
      obtain ⟨x, hx, hr⟩ := R.cellK hc j v hv
      cases v with
      | sl a l c => cases hr with
        | sn => exact ⟨_, _, _, hx⟩
        | sl => exact ⟨_, _, _, hx⟩
      | _ => cases o
  obtain ⟨A0, l0, c0, h0⟩ := sl 0 o0
  obtain ⟨A1, l1, c1, h1⟩ := sl 1 o1
  obtain ⟨A4, l4, c4, h4⟩ := sl 4 o4
  have h2 : ∃ b, w.cell? ⟨cp.blk, cp.off + 2, none⟩ = some (.bool b) := by
    cases hv : cellT (TQ k) 97 2 with
    | none => rw [hv] at o2; cases o2
    | some v =>
      rw [hv] at o2
      obtain ⟨x, hx, hr⟩ := R.cellK hc 2 v hv
      cases v with
      | b e => cases hr.boolv; exact ⟨_, hx⟩
      | _ => cases o2
  have h3 : ∃ e, w.cell? ⟨cp.blk, cp.off + 3, none⟩ = some (.int .i64 e) := by
    cases hv : cellT (TQ k) 97 3 with
    | none => rw [hv] at o3; cases o3
    | some v =>
      rw [hv] at o3
      obtain ⟨x, hx, hr⟩ := R.cellK hc 3 v hv
      cases v with
      | i kd e =>
        cases kd <;> first | (cases o3; done) | skip
        cases hr.intv; exact ⟨_, hx⟩
      | _ => cases o3
  obtain ⟨b, h2⟩ := h2
  obtain ⟨e, h3⟩ := h3
  exact ⟨A0, l0, c0, A1, l1, c1, b, e, A4, l4, c4, h0, h1, h2, h3, h4⟩
theorem St.below {n0 : Old} {ip cp : Pl} {w w' : World} (h : St n0 ip cp w) (b : Below w.heap.size w w') : St n0 ip cp w' := by
  obtain ⟨k, env, M, hk, hi, hc, R⟩ := h
  exact ⟨k, env, M, hk, hi, hc, R.below b⟩
theorem _root_.Go.RowKit.Below.keep {w w' : World} {a : Addr} {v : Value} (b : Below w.heap.size w w') (h : w.cell? a = some v) : w'.cell? a = some v := by
  rw [← h]
  refine World.cell?_of_block (b.block _ ?_)
  rcases Nat.lt_or_ge a.block w.heap.size with h' | h'
  · exact h'
  · exfalso
    simp only [World.cell?] at h
    rw [Array.getElem?_eq_none h'] at h
    simp at h
/-- A block that nobody of these has may be turned; what is read lies below it. -/
theorem _root_.Go.Vm.Rel.aside {env : Nat → Int} {M : Mp} {h : Tr Ob} {wA w w' w0 : World} (r : Rel env (oldOf wA) M h w) {p : Nat} (h0 : w0.heap.size ≤ p) (hp : p < wA.heap.size) (hb : Below w0.heap.size w0 wA) (hro : ∀ b pl, M b = some pl → b < RO → pl.blk < w0.heap.size)
    (hk : ∀ k, k ≠ p → w'.heap[k]? = w.heap[k]?) (hsz : w'.heap.size = w.heap.size) : Rel env (oldOf w0) M h w' := by
  refine ⟨r.dom, fun b ob e => ?_, r.inj, ?_, fun k hk' => ?_⟩
  · obtain ⟨pl, q1, q2, q3, q4, q5⟩ := r.row b ob e
    have hne : pl.blk ≠ p := by
      rcases Nat.lt_or_ge b RO with hb' | hb'
      · have := hro b pl q1 hb'; omega
      · have := (q3 hb').1
        have : wA.heap.size ≤ pl.blk := this
        omega
    refine ⟨pl, q1, q2.mono M.le_refl (fun _ => hk _ hne), fun hr => ⟨?_, (q3 hr).2⟩, fun hr => hro b pl q1 hr, by rw [hsz]; exact q5⟩
    have : wA.heap.size ≤ pl.blk := (q3 hr).1
    have := hb.size
    show w0.heap.size ≤ pl.blk
    omega
  · have h1 : wA.heap.size ≤ w.heap.size := r.size
    have h2 := hb.size
    show w0.heap.size ≤ w'.heap.size
    rw [hsz]; omega
  · have hk' : k < w0.heap.size := hk'
    have h2 := hb.size
    have e1 : w.heap[k]? = wA.heap[k]? := r.old k (show k < wA.heap.size by omega)
    show w'.heap[k]? = w0.heap[k]?
    rw [hk k (by omega), e1]
    exact hb.block k hk'
def St2 (w0 w : World) (ip cp xp : Pl) (w' : World) : Prop := ∃ k env M, k < 33 ∧ Rel env (oldOf w) M (TB k) w' ∧ M 64 = some xp ∧ M 4 = some ip ∧ M 37 = some cp ∧ (∀ b pl, M b = some pl → b < RO → pl.blk < w0.heap.size)
theorem St2.aside {w0 wA : World} {ip cp xp : Pl} {w w' : World} (h : St2 w0 wA ip cp xp w) {p : Nat} (h0 : w0.heap.size ≤ p) (hp : p < wA.heap.size) (hb : Below w0.heap.size w0 wA) (hk : ∀ k, k ≠ p → w'.heap[k]? = w.heap[k]?) (hsz : w'.heap.size = w.heap.size) : St2 w0 w0 ip cp xp w' := by
  obtain ⟨k, env, M, hk', R, hx, hi, hc, hr⟩ := h
  exact ⟨k, env, M, hk', R.aside h0 hp hb hr hk hsz, hx, hi, hc, hr⟩
theorem St.copy {n0 : Old} {ip cp : Pl} {w0 w : World} (h : St n0 ip cp w0) (hbl : Below w0.heap.size w0 w) : Calls Tryz.prog 23 #[.pointer (some ⟨ip.blk, ip.off, none⟩)] w fun e w' => ∃ xp : Pl, e = .returned (.pointer (some ⟨xp.blk, xp.off, none⟩)) ∧ Below w.heap.size w w' ∧ St2 w0 w ip cp xp w' := by
  obtain ⟨k, env, M, hk, hi, hc, R⟩ := h
  have low : ∀ b ob pl, (TQ k).get b = some ob → M b = some pl → pl.blk < w0.heap.size := by
    intro b ob pl e hM
    obtain ⟨pl', q1, _, _, _, q5⟩ := R.row b ob e
    rw [hM] at q1; cases q1
    exact q5
  refine (cp_all k hk env n0 M w ip cp hi hc (R.below hbl) w0.heap.size fun b pl hM => ?_).mono ?_
  · cases e : (TQ k).get b with
    | none => rw [R.dom b e] at hM; cases hM
    | some ob => exact low b ob pl e hM
  · rintro e w' ⟨x, env', M', rfl, hb, R', v, h4, h37, hr⟩
    obtain ⟨xp, hx, rfl⟩ := v.ptr0
    exact ⟨xp, rfl, hb, k, env', M', hk, R', hx, h4, h37, hr⟩
theorem St2.below {w0 wA : World} {ip cp xp : Pl} {w w' : World} (h : St2 w0 wA ip cp xp w) (b : Below w.heap.size w w') : St2 w0 wA ip cp xp w' := by
  obtain ⟨k, env, M, hk, R, hx, hi, hc, hr⟩ := h
  exact ⟨k, env, M, hk, R.below b, hx, hi, hc, hr⟩
theorem St2.read {w00 w0 : World} {ip cp xp : Pl} {w : World} (h : St2 w00 w0 ip cp xp w) : ∃ k env M, k < 33 ∧ Rel env (oldOf w) M (TC k) w ∧ M 54 = some xp ∧ M 4 = some ip ∧ M 37 = some cp := by
  obtain ⟨k, env, M, hk, R, hx, hi, hc, hr⟩ := h
  have tc := tc_all k hk
  injection tc with t1 t2
  injection t2 with t2 t3
  injection t3 with t3 t4
  refine ⟨k, _, _, hk, R.toldR t1, ?_, ?_, ?_⟩
  · show (sg (TC k) (LC k) 54).bind M = _
    rw [t4]; exact hx
  · show (sg (TC k) (LC k) 4).bind M = _
    rw [t2]; exact hi
  · show (sg (TC k) (LC k) 37).bind M = _
    rw [t3]; exact hc
theorem St2.same {w00 w0 : World} {ip cp xp : Pl} {w : World} (h : St2 w00 w0 ip cp xp w) : Calls Tryz.prog 26 #[.pointer (some ⟨ip.blk, ip.off, none⟩), .pointer (some ⟨xp.blk, xp.off, none⟩)] w fun e w' => e = .returned (.bool true) ∧ Below w.heap.size w w' := by
  obtain ⟨k, env, M, hk, R, hx, hi, hc⟩ := h.read
  exact si_all k hk env _ M w ip _ R hi (.p0 54 xp hx)
theorem St2.sameConfig {w00 w0 : World} {ip cp xp : Pl} {w : World} (h : St2 w00 w0 ip cp xp w) {x0 x1 x2 x3 x4 : Value} (h0 : w.cell? ⟨cp.blk, cp.off, none⟩ = some x0) (h1 : w.cell? ⟨cp.blk, cp.off + 1, none⟩ = some x1) (h2 : w.cell? ⟨cp.blk, cp.off + 2, none⟩ = some x2)
    (h3 : w.cell? ⟨cp.blk, cp.off + 3, none⟩ = some x3) (h4 : w.cell? ⟨cp.blk, cp.off + 4, none⟩ = some x4) :
    Calls Tryz.prog 25 #[.agg #[x0, x1, x2, x3, x4], .agg #[x0, x1, x2, x3, x4]] w fun e w' => e = .returned (.bool true) ∧ Below w.heap.size w w' := by
  obtain ⟨k, env, M, hk, R, hx, hi, hc⟩ := h.read
  have hcb := cb_all k hk
  match hCB : CB k, hcb with
  | [v0, v1, v2, v3, v4], hcb =>
    simp only [List.map_cons, List.map_nil, List.cons.injEq] at hcb
    obtain ⟨e0, e1, e2, e3, e4, -⟩ := hcb
    have one : ∀ j v x, cellT (TC k) 37 j = some v → w.cell? ⟨cp.blk, cp.off + j, none⟩ = some x → VR env M v x := by
      intro j v x e hx
      obtain ⟨y, hy, hr⟩ := R.cellK hc j v e
      rw [hx] at hy
      cases hy
      exact hr
    have hv : VRs env M (CB k) [x0, x1, x2, x3, x4] := by
      rw [hCB]
      exact .cons _ _ _ _ (one 0 _ _ e0 h0) (.cons _ _ _ _ (one 1 _ _ e1 h1) (.cons _ _ _ _ (one 2 _ _ e2 h2) (.cons _ _ _ _ (one 3 _ _ e3 h3) (.cons _ _ _ _ (one 4 _ _ e4 h4) .nil))))
    exact sc_all k hk env _ M w [x0, x1, x2, x3, x4] R hv
  | [], hcb => simp at hcb
  | [_], hcb => simp at hcb
  | [_, _], hcb => simp at hcb
  | [_, _, _], hcb => simp at hcb
  | [_, _, _, _], hcb => simp at hcb
  | _ :: _ :: _ :: _ :: _ :: _ :: _, hcb => simp at hcb
theorem five_alloc (w w6 : World) (t : TypeId) (b : Below (w.alloc (.cells #[.slice none 0 0, .slice none 0 0, .bool false, .int .i64 0, .slice none 0 0] t)).drew.heap.size (w.alloc (.cells #[.slice none 0 0, .slice none 0 0, .bool false, .int .i64 0, .slice none 0 0] t)).drew w6) :
    w6.cell? ⟨w.heap.size, 0, none⟩ = some (.slice none 0 0) ∧ w6.cell? ⟨w.heap.size, 1, none⟩ = some (.slice none 0 0) ∧ w6.cell? ⟨w.heap.size, 2, none⟩ = some (.bool false) ∧ w6.cell? ⟨w.heap.size, 3, none⟩ = some (.int .i64 0) ∧ w6.cell? ⟨w.heap.size, 4, none⟩ = some (.slice none 0 0) ∧
    w6.frozen? ⟨w.heap.size, 0, none⟩ = false ∧ w6.frozen? ⟨w.heap.size, 1, none⟩ = false ∧ w6.frozen? ⟨w.heap.size, 2, none⟩ = false ∧ w6.frozen? ⟨w.heap.size, 3, none⟩ = false ∧ w6.frozen? ⟨w.heap.size, 4, none⟩ = false := by
  have hh : w6.heap[w.heap.size]? = some (.cells #[.slice none 0 0, .slice none 0 0, .bool false, .int .i64 0, .slice none 0 0] t (0, 0)) := by
    have e := b.block w.heap.size (by show w.heap.size < (w.alloc _).heap.size; simp)
    rw [e]
    exact heap_alloc_new w _
  refine ⟨?_, ?_, ?_, ?_, ?_, ?_, ?_, ?_, ?_, ?_⟩ <;> simp [World.cell?, World.frozen?, hh]
/-- What is known behind the copy. -/
def Fx (W w8 : World) (cb p : Nat) (ip cp xp : Pl) (x0 x1 x2 x3 x4 : Value) : Prop := Below W.heap.size W w8 ∧
  (w8.cell? ⟨cb, 0, none⟩ = some x0 ∧ w8.cell? ⟨cb, 1, none⟩ = some x1 ∧ w8.cell? ⟨cb, 2, none⟩ = some x2 ∧ w8.cell? ⟨cb, 3, none⟩ = some x3 ∧ w8.cell? ⟨cb, 4, none⟩ = some x4) ∧
  (w8.cell? ⟨p, 0, none⟩ = some x0 ∧ w8.cell? ⟨p, 1, none⟩ = some x1 ∧ w8.cell? ⟨p, 2, none⟩ = some x2 ∧ w8.cell? ⟨p, 3, none⟩ = some x3 ∧ w8.cell? ⟨p, 4, none⟩ = some x4) ∧
  ∃ w0 wA, W.heap.size ≤ wA.heap.size ∧ St2 w0 wA ip cp xp w8
theorem factsA {W w5 w6 : World} {cb : Nat} {ip cp xp : Pl} {x0 x1 x2 x3 x4 : Value} {S : World → Prop} (h5 : Below W.heap.size W w5) (h6 : Below w5.heap.size w5 w6) (hS : St2 w5 w5.drew ip cp xp w6)
    (hc : ∀ w', Below w5.heap.size w5 w' → (w'.cell? ⟨cb, 0, none⟩ = some x0 ∧ w'.cell? ⟨cb, 1, none⟩ = some x1 ∧ w'.cell? ⟨cb, 2, none⟩ = some x2 ∧ w'.cell? ⟨cb, 3, none⟩ = some x3 ∧ w'.cell? ⟨cb, 4, none⟩ = some x4 ∧ Below w5.heap.size w5 w')) (t : TypeId) :
    Fx W (w6.alloc (.cells #[x0, x1, x2, x3, x4] t)) cb w6.heap.size ip cp xp x0 x1 x2 x3 x4 := by
  have hb := h6.alloc h6.size (.cells #[x0, x1, x2, x3, x4] t)
  obtain ⟨a0, a1, a2, a3, a4, _⟩ := hc _ hb
  refine ⟨h5.trans (hb.mono h5.size), ⟨a0, a1, a2, a3, a4⟩, ?_, w5, w5.drew, h5.size, hS.below ((Below.refl w6.heap.size w6).alloc (Nat.le_refl _) _)⟩
  go_simp
theorem factsB {W w5 w6 wA : World} {cb : Nat} {ip cp xp : Pl} {x0 x1 x2 x3 x4 : Value} (h5 : Below W.heap.size W w5) (h6 : Below w5.heap.size w5 w6) (hA : Below w5.heap.size w5 wA) (hlt : w5.heap.size < wA.heap.size) (hS : St2 w5 wA ip cp xp w6)
    (hc : ∀ w', Below w5.heap.size w5 w' → (w'.cell? ⟨cb, 0, none⟩ = some x0 ∧ w'.cell? ⟨cb, 1, none⟩ = some x1 ∧ w'.cell? ⟨cb, 2, none⟩ = some x2 ∧ w'.cell? ⟨cb, 3, none⟩ = some x3 ∧ w'.cell? ⟨cb, 4, none⟩ = some x4 ∧ Below w5.heap.size w5 w'))
    {y0 y1 y2 y3 y4 : Value} (e0 : w6.cell? ⟨w5.heap.size, 0, none⟩ = some y0) (e1 : w6.cell? ⟨w5.heap.size, 1, none⟩ = some y1) (e2 : w6.cell? ⟨w5.heap.size, 2, none⟩ = some y2) (e3 : w6.cell? ⟨w5.heap.size, 3, none⟩ = some y3) (e4 : w6.cell? ⟨w5.heap.size, 4, none⟩ = some y4) :
    Fx W (((((w6.setCell ⟨w5.heap.size, 0, none⟩ x0).setCell ⟨w5.heap.size, 1, none⟩ x1).setCell ⟨w5.heap.size, 2, none⟩ x2).setCell ⟨w5.heap.size, 3, none⟩ x3).setCell ⟨w5.heap.size, 4, none⟩ x4) cb w5.heap.size ip cp xp x0 x1 x2 x3 x4 := by
  have b1 : ∀ (w : World) (j : Nat) (x : Value), Below w5.heap.size w (w.setCell ⟨w5.heap.size, j, none⟩ x) := fun w j x => setCell_bel w _ x (Nat.le_refl _)
  have hb := h6.trans ((b1 w6 0 x0).trans ((b1 _ 1 x1).trans ((b1 _ 2 x2).trans ((b1 _ 3 x3).trans (b1 _ 4 x4)))))
  obtain ⟨a0, a1, a2, a3, a4, _⟩ := hc _ hb
  refine ⟨h5.trans (hb.mono h5.size), ⟨a0, a1, a2, a3, a4⟩, ?_, w5, w5, h5.size, hS.aside (p := w5.heap.size) (Nat.le_refl _) hlt hA (fun k hk => ?_) ?_⟩
  · go_simp
  · rw [setCell_other _ _ _ _ hk, setCell_other _ _ _ _ hk, setCell_other _ _ _ _ hk, setCell_other _ _ _ _ hk, setCell_other _ _ _ _ hk]
  · simp only [setCell_size]
theorem factsD {W w8 : World} {cb p : Nat} {ip cp xp : Pl} {x0 x1 x2 x3 x4 : Value} (h : Fx W w8 cb p ip cp xp x0 x1 x2 x3 x4) (t1 t2 : TypeId) :
    let w' := (w8.alloc (.cells #[.int .u64 5] t1)).alloc (.cells #[.slice none 0 0, .slice none 0 0, .bool true, .int .i64 0, .slice (some ⟨w8.heap.size, 0, none⟩) 1 1] t2)
    Below W.heap.size W w' ∧
    (w'.cell? ⟨cb, 0, none⟩ = some x0 ∧ w'.cell? ⟨cb, 1, none⟩ = some x1 ∧ w'.cell? ⟨cb, 2, none⟩ = some x2 ∧ w'.cell? ⟨cb, 3, none⟩ = some x3 ∧ w'.cell? ⟨cb, 4, none⟩ = some x4) ∧
    (w'.cell? ⟨p, 0, none⟩ = some x0 ∧ w'.cell? ⟨p, 1, none⟩ = some x1 ∧ w'.cell? ⟨p, 2, none⟩ = some x2 ∧ w'.cell? ⟨p, 3, none⟩ = some x3 ∧ w'.cell? ⟨p, 4, none⟩ = some x4) ∧
    (w'.cell? ⟨w8.heap.size + 1, 2, none⟩ = some (.bool true) ∧ w'.cell? ⟨w8.heap.size + 1, 4, none⟩ = some (.slice (some ⟨w8.heap.size, 0, none⟩) 1 1)) ∧
    ∃ w0 wA, W.heap.size ≤ wA.heap.size ∧ St2 w0 wA ip cp xp w' := by
  intro w'
  obtain ⟨hb, ⟨a0, a1, a2, a3, a4⟩, ⟨b0, b1, b2, b3, b4⟩, w0, wA, hs, hS⟩ := h
  have hbl : Below w8.heap.size w8 w' := ((Below.refl w8.heap.size w8).alloc (Nat.le_refl _) _).alloc (by simp) _
  refine ⟨hb.trans (hbl.mono hb.size), ⟨hbl.keep a0, hbl.keep a1, hbl.keep a2, hbl.keep a3, hbl.keep a4⟩, ⟨hbl.keep b0, hbl.keep b1, hbl.keep b2, hbl.keep b3, hbl.keep b4⟩, ?_, w0, wA, hs, hS.below hbl⟩
  have hh : w'.heap[w8.heap.size + 1]? = some (.cells #[.slice none 0 0, .slice none 0 0, .bool true, .int .i64 0, .slice (some ⟨w8.heap.size, 0, none⟩) 1 1] t2 (0, 0)) := by
    have := heap_alloc_new (w8.alloc (.cells #[.int .u64 5] t1)) (.cells #[.slice none 0 0, .slice none 0 0, .bool true, .int .i64 0, .slice (some ⟨w8.heap.size, 0, none⟩) 1 1] t2)
    rw [show (w8.alloc (.cells #[.int .u64 5] t1)).heap.size = w8.heap.size + 1 by simp] at this
    exact this
  exact ⟨by simp [World.cell?, hh], by simp [World.cell?, hh]⟩
set_option maxRecDepth 100000 in
theorem run_c {n0 : Old} {ip cp : Pl} {w : World} (h : St n0 ip cp w) (m : Nat) (hm : m < 256) :
    Calls Tryz.prog 22 #[.pointer (some ⟨ip.blk, ip.off, none⟩), .pointer (some ⟨cp.blk, cp.off, none⟩), .int .i64 (m : Int)] w fun e w' => (∃ x : Int, e = .returned (.int .i64 x)) ∧ Below n0.n w w' ∧ St n0 ip cp w' := by
  have H := Lib.hid h
  clear h
  go_enter Tryz.func22, Tryz.ntmps22
  go_wp2_with fail
  go_loopw [7] (fun i wr => ∃ j : Nat, j ≤ m ∧ i = .int .i64 j ∧ Below n0.n w wr ∧ St n0 ip cp wr) (fun i _ => m - (intOf i).toNat)
  case atStart => exact ⟨0, Nat.zero_le _, rfl, Below.refl _ _, H.out⟩
  case round =>
    obtain ⟨j, hj, rfl, hb, hs⟩ := hrel
    have HS := Lib.hid (And.intro hb hs)
    obtain ⟨A0, l0, c0, A1, l1, c1, b, e, A4, l4, c4, -, -, h2, -, -⟩ := hs.cfg
    clear hb hs
    by_cases hlt : j < m
    · have d0 : decide ((j : Int) < (m : Int)) = true := decide_eq_true (by omega)
      have d1 : decide (j < m) = true := decide_eq_true (by omega)
      have hi : IntKind.i64.wrap ((j : Int) + 1) = (j : Int) + 1 := IntWalk.i64_in _ (by omega)
      cases b with
      | true =>
        go_wp2
        go_ret
        exact ⟨⟨_, rfl⟩, HS.out⟩
      | false =>
        go_wp2_with fail
        refine HS.out.2.step.mono ?_
        rintro e w2 ⟨rfl, hb2, hs2⟩
        have HN := Lib.hid (And.intro (HS.out.1.trans hb2) hs2)
        clear hb2 hs2 h2
        go_wp2
        go_roundw
        case rel => exact ⟨j + 1, hlt, by go_num, HN.out⟩
        case measure => (simp [intOf]; try omega)
    · have d0 : decide ((j : Int) < (m : Int)) = false := decide_eq_false (by omega)
      have d1 : decide (j < m) = false := decide_eq_false (by omega)
      go_wp2
      go_ret
      exact ⟨⟨_, rfl⟩, HS.out⟩
/-- No fuel, or what is over: nothing is done. -/
theorem none_c {w : World} {iv : Value} {cb co : Nat} {b : Bool} (hc : w.cell? ⟨cb, co + 2, none⟩ = some (.bool b)) (fuel : Int) (h : b = true ∨ fuel ≤ 0) :
    Calls Tryz.prog 24 #[iv, .pointer (some ⟨cb, co, none⟩), .pointer none, .int .i64 fuel] w fun e w' => e = .returned (.int .i64 0) ∧ w' = w := by
  cases b with
  | true =>
    clear h
    go_enter Tryz.func24, Tryz.ntmps24
    go_wp2_with fail
    go_loopw [8] (fun i wr => i = .int .i64 0 ∧ wr = w) (fun _ _ => 0)
    case atStart => exact ⟨rfl, rfl⟩
    case round =>
      obtain ⟨rfl, rfl⟩ := hrel
      go_wp2
      exact bodyPost_ret (v := .int .i64 0) (by simp [results, Tryz.results24, go_sem]) rfl ⟨rfl, rfl⟩
  | false =>
    have d0 : decide ((0 : Int) < fuel) = false := decide_eq_false (by rcases h with h | h; cases h; omega)
    clear h
    go_enter Tryz.func24, Tryz.ntmps24
    go_wp2_with fail
    go_loopw [8] (fun i wr => i = .int .i64 0 ∧ wr = w) (fun _ _ => 0)
    case atStart => exact ⟨rfl, rfl⟩
    case round =>
      obtain ⟨rfl, rfl⟩ := hrel
      go_wp2
      exact bodyPost_ret (v := .int .i64 0) (by simp [results, Tryz.results24, go_sem]) rfl ⟨rfl, rfl⟩
theorem none_0 {w : World} {iv : Value} {cb : Nat} {b : Bool} (hc : w.cell? ⟨cb, 2, none⟩ = some (.bool b)) (fuel : Int) (h : b = true ∨ fuel ≤ 0) :
    Calls Tryz.prog 24 #[iv, .pointer (some ⟨cb, 0, none⟩), .pointer none, .int .i64 fuel] w fun e w' => e = .returned (.int .i64 0) ∧ w' = w := none_c (co := 0) hc fuel h
set_option maxRecDepth 100000 in
set_option maxHeartbeats 2000000 in
theorem slice_calls (n : Int) (wn : (Lit.int .i64 n).wf = true) (f : Int) (wf : (Lit.int .u8 f).wf = true) (W : World) : Calls Tryz.prog 4 #[.int .i64 n, .int .u8 f] W fun e W' => e = .returned (.bool true) ∧ Below W.heap.size W W' := by
  have r1 := (Lit.wf_int_iff _ _).1 wf
  have m1 : IntKind.min .u8 = 0 := by decide
  have x1 : IntKind.max .u8 = 255 := by decide
  rw [m1, x1] at r1
  obtain ⟨far, rfl⟩ : ∃ k : Nat, f = k := ⟨f.toNat, by omega⟩
  have hfar : far < 256 := by omega
  clear r1 m1 x1 wf wn
  have HF := Lib.hid hfar
  obtain ⟨qm, hq0, hmin⟩ : ∃ qm : Int, qm ≤ 0 ∧ (if (0 : Int) < n then 0 else n) = qm := ⟨_, by split <;> omega, rfl⟩
  have HQ := Lib.hid hq0
  clear hq0
  have hw0 : IntKind.u64.wrap ((far : Int) % 20) = (far : Int) % 20 := IntWalk.u64_in _ (by omega)
  have hw1 : IntKind.i64.wrap (far : Int) = (far : Int) := IntWalk.i64_in _ (by omega)
  go_enter Tryz.func4, Tryz.ntmps4
  go_wp2_with fail
  refine (begun_c _).mono ?_
  rintro e w1 ⟨rfl, hb1⟩
  go_wp2_with fail
  refine (tree_rel hT_b mixed_ok hF_b (by decide) Fixed_r trivial (rel_nil (fun _ => (far : Int) % 20) w1) .nil).mono ?_
  rintro e w2 ⟨r, rfl, hb2, M2, k2, R2, v2⟩
  go_wp2_with fail
  refine (tree_rel hT_b mixed_ok hF_b (by decide) Make_r trivial R2 (.cons _ _ _ _ v2 .nil)).mono ?_
  rintro e w3 ⟨r, rfl, hb3, M3, k3, R3, v3⟩
  obtain ⟨i0, i1, rfl, u0, u1⟩ := v3.tup2
  obtain ⟨ip, hI3, rfl⟩ := u0.ptr0
  cases u1.intv
  have H3 := Lib.hid (And.intro hb1 (And.intro hb2 (And.intro hb3 (And.intro R3 hI3))))
  clear u0 u1 v2 v3 k2 k3 R2 R3 hI3 hb1 hb2 hb3
  go_wp2_with fail
  obtain ⟨-, -, -, R3, hI3⟩ := H3.out
  have Ra := R3.told (T := Make_0.T) (l := []) (s := sAt [.c ((far : Int) % 20)]) (by kernel_rfl)
  have hIa : mpS (sg Make_0.T []) M3 64 = some ip := by rw [← hI3]; kernel_rfl
  have Rb := Ra.alloc (n := 900) (by kernel_rfl) (by decide) (cs := [(.i .u64 (.v 0), 1)]) (xs := [.int .u64 ((far : Int) % 20)]) (.cons _ _ _ _ (.i _ (.v 0)) .nil) 26 26 1
  have hb4a : Below w1.heap.size w3 (w3.alloc (.cells #[.int .u64 ((far : Int) % 20)] 26)) := push_below R3.size _
  refine (tree_rel hT_b mixed_ok hF_b (by decide) Begin_r trivial Rb (.cons _ _ _ _ (.p0 64 ip hIa) (.cons _ _ _ _ (.i _ _) (.cons _ _ _ _ (.sl 900 0 1 1 1 ⟨w3.heap.size, 0, 1, 1, false⟩ ⟨w3.heap.size, 0, none⟩ rfl (by decide) (by simp) (.inl rfl) (by decide)) .nil)))).mono ?_
  rintro e w4 ⟨r, rfl, hb4, M4, k4, R4, v4⟩
  have hI4 := k4 64 ip (by kernel_rfl) hIa
  obtain ⟨xs, rfl, q⟩ := v4.aggv
  obtain ⟨y0, xs, rfl, q0, q⟩ := q.uncons
  obtain ⟨y1, xs, rfl, q1, q⟩ := q.uncons
  obtain ⟨y2, xs, rfl, q2, q⟩ := q.uncons
  obtain ⟨y3, xs, rfl, q3, q⟩ := q.uncons
  obtain ⟨y4, xs, rfl, q4, q⟩ := q.uncons
  cases q.unnil
  have q0' := q0
  obtain ⟨fp, fc, hF4, hfc, -, -, rfl⟩ := q0'.slw0 (by decide)
  cases q1.sln
  cases q2.boolv
  cases q3.intv
  cases q4.sln
  have H4 := Lib.hid (And.intro (hb4a.trans hb4) (And.intro R4 (And.intro hI4 (And.intro q0 (And.intro q1 (And.intro q2 (And.intro q3 q4)))))))
  clear R3 hI3 Ra hIa Rb hb4a hb4 k4 R4 hI4 q0 q1 q2 q3 q4 v4 hF4 hfc q
  go_upto_region 7 with (fail)
  obtain ⟨hb4, R4, hI4, q0, q1, q2, q3, q4⟩ := H4.out
  have R5 := R4.alloc (n := 97) (by kernel_rfl) (by decide) (cs := [(.sl (some (98, 0)) 1 1, 1), (.sl none 0 0, 1), (.b (.c false), 1), (.i .i64 (.c (.ofNat 0)), 1), (.sl none 0 0, 1)]) (.cons _ _ _ _ q0 (.cons _ _ _ _ q1 (.cons _ _ _ _ q2 (.cons _ _ _ _ q3 (.cons _ _ _ _ q4 .nil))))) 51 51 5
  have R6 := R5.told (T := TQ 0) (l := []) (s := sAt St0s) (by kernel_rfl)
  have hI6 : mpS (sg (TQ 0) []) (M4.add 97 ⟨w4.heap.size, 0, 5, 5, false⟩) 64 = some ip := by rw [← hI4]; kernel_rfl
  have hC6 : mpS (sg (TQ 0) []) (M4.add 97 ⟨w4.heap.size, 0, 5, 5, false⟩) 97 = some ⟨w4.heap.size, 0, 5, 5, false⟩ := by kernel_rfl
  have hS := St.mk (k := 0) (by decide) hI6 hC6 R6
  have hb5 : ∀ o, Below W.heap.size W (w4.alloc o) := fun o => (H3.out.1.trans ((H3.out.2.1.trans (H3.out.2.2.1.trans (hb4.trans (push_below R4.size o)))).mono H3.out.1.size))
  have HS := Lib.hid hS
  have HB5 := Lib.hid hb5
  clear hb4 R4 hI4 q0 q1 q2 q3 q4 R5 R6 hI6 hC6 hS hb5
  go_wp2_with fail
  refine (run_c HS.out far HF.out).mono ?_
  rintro e w5 ⟨⟨used, rfl⟩, hb6, hS5⟩
  have H5 := Lib.hid (And.intro ((HB5.out _).trans (hb6.mono H3.out.1.size)) hS5)
  obtain ⟨A0, l0, c0, A1, l1, c1, b, er, A4, l4, c4, d0, d1, d2, d3, d4⟩ := hS5.cfg
  replace d0 : w5.cell? ⟨w4.heap.size, 0, none⟩ = some (.slice A0 l0 c0) := d0
  replace d1 : w5.cell? ⟨w4.heap.size, 1, none⟩ = some (.slice A1 l1 c1) := d1
  replace d2 : w5.cell? ⟨w4.heap.size, 2, none⟩ = some (.bool b) := d2
  replace d3 : w5.cell? ⟨w4.heap.size, 3, none⟩ = some (.int .i64 er) := d3
  replace d4 : w5.cell? ⟨w4.heap.size, 4, none⟩ = some (.slice A4 l4 c4) := d4
  clear hb6 hS5
  go_upto_region 8 with (fail)
  have KS : Hid (∀ w', Below w5.heap.size w5 w' → (w'.cell? ⟨w4.heap.size, 0, none⟩ = some (.slice A0 l0 c0) ∧ w'.cell? ⟨w4.heap.size, 1, none⟩ = some (.slice A1 l1 c1) ∧ w'.cell? ⟨w4.heap.size, 2, none⟩ = some (.bool b) ∧ w'.cell? ⟨w4.heap.size, 3, none⟩ = some (.int .i64 er) ∧ w'.cell? ⟨w4.heap.size, 4, none⟩ = some (.slice A4 l4 c4) ∧ Below w5.heap.size w5 w')) := Lib.hid fun w' hb => ⟨hb.keep d0, hb.keep d1, hb.keep d2, hb.keep d3, hb.keep d4, hb⟩
  clear d0 d1 d2 d3 d4
  refine wp_region_z (fun w' => w'.cell? ⟨w4.heap.size, 0, none⟩ = some (.slice A0 l0 c0) ∧ w'.cell? ⟨w4.heap.size, 1, none⟩ = some (.slice A1 l1 c1) ∧ w'.cell? ⟨w4.heap.size, 2, none⟩ = some (.bool b) ∧ w'.cell? ⟨w4.heap.size, 3, none⟩ = some (.int .i64 er) ∧ w'.cell? ⟨w4.heap.size, 4, none⟩ = some (.slice A4 l4 c4) ∧ Below w5.heap.size w5 w') (fun j => j == 4 || j == 5) (by kernel_rfl) ?_ (fun hHeld => ?_)
  · exact KS.out _ (by first | exact hcur | exact ⟨rfl, rfl, rfl, Nat.le_refl _, fun _ _ => rfl⟩)
  (refine wpZ_take (i := 0) (oi := { dst := some 32, op := Go.Op.load 51 (Go.Operand.tmp 7), type := 51, pos := "law.go:128", after := #[], guard := none }) (v := ?_) rfl (by kernel_rfl) (fun _ _ _ h => h) (by assumption) (Or.inl ⟨by rfl, ?_⟩) ?_; rotate_left 1; · ((intro w hSw; (try dsimp only at hSw); go_split_ands; go_simp) <;> (try with_reducible rfl)))
  try simp only [Act.put, List.setIfInBounds_toArray, List.set_cons_zero, List.set_cons_succ]
  (refine wpZ_take (i := 1) (oi := { dst := some 33, op := Go.Op.move (Go.Operand.tmp 5), type := 34, pos := "law.go:128", after := #[], guard := none }) (v := ?_) rfl (by kernel_rfl) (fun _ _ _ h => h) (by assumption) (Or.inl ⟨by rfl, ?_⟩) ?_; rotate_left 1; · ((intro w hSw; (try dsimp only at hSw); go_split_ands; go_simp) <;> (try with_reducible rfl)))
  try simp only [Act.put, List.setIfInBounds_toArray, List.set_cons_zero, List.set_cons_succ]
  refine wpZ_two (i := 2) (j := 3) (oi := { dst := some 34, op := Go.Op.call { callee := Go.Callee.value (Go.Operand.func 23), args := #[Go.Operand.tmp 33], argTypes := #[34] }, type := 34, pos := "law.go:128", after := #[{ on := 1, ground := Go.Ground.data }], guard := none }) (oj := { dst := some 8, op := Go.Op.alloc 51, type := 0, pos := "law.go:128", after := #[], guard := none }) rfl rfl (by kernel_rfl) (fun K hK => ?_) (fun K hK => ?_)
  ·
    go_simp; have hbase := hHeld.2.2.2.2.2; have HST := H5.out.2.copy hbase; have HA := Lib.hid hbase; clear hHeld; refine HST.mono ?_; rintro e w6 ⟨xp, rfl, hb6, hS6⟩; have hcur := hbase.trans (hb6.mono hbase.size); have H6 := Lib.hid (And.intro hcur (And.intro hb6 hS6)); first | (with_reducible have FV := five_alloc w5 w6 51 hb6; obtain ⟨z0, z1, z2, z3, z4, y0, y1, y2, y3, y4⟩ := FV) | skip; clear hb6 hS6 hbase HST; go_wp2_with fail
    refine hK.out _ _ (fun _ => by (exact KS.out _ (by first | exact hcur | exact ⟨rfl, rfl, rfl, Nat.le_refl _, fun _ _ => rfl⟩))) (fun hh => ?_)
    have hHeld := hh rfl
    clear hK K
    try simp only [Act.put, List.setIfInBounds_toArray, List.set_cons_zero, List.set_cons_succ]
    refine wpZ_one (i := 3) (oi := { dst := some 8, op := Go.Op.alloc 51, type := 0, pos := "law.go:128", after := #[], guard := none }) rfl (by kernel_rfl) (fun K hK => ?_)
    go_simp; have hcur := hHeld.2.2.2.2.2.trans ((Below.refl w5.heap.size _).alloc hHeld.2.2.2.2.2.size (.cells #[.slice none 0 0, .slice none 0 0, .bool false, .int .i64 0, .slice none 0 0] 51)); clear hHeld
    refine hK.out _ _ (fun _ => by (exact KS.out _ (by first | exact hcur | exact ⟨rfl, rfl, rfl, Nat.le_refl _, fun _ _ => rfl⟩))) (fun hh => ?_)
    have hHeld := hh rfl
    clear hK K
    try simp only [Act.put, List.setIfInBounds_toArray, List.set_cons_zero, List.set_cons_succ]
    refine wpZ_one (i := 4) (oi := { dst := none, op := Go.Op.store 51 (Go.Operand.tmp 8) (Go.Operand.tmp 32), type := 0, pos := "law.go:128", after := #[{ on := 3, ground := Go.Ground.data }, { on := 0, ground := Go.Ground.data }, { on := 2, ground := Go.Ground.chain }, { on := 0, ground := Go.Ground.phase }, { on := 1, ground := Go.Ground.textOnly Go.Departure.lateStores }, { on := 2, ground := Go.Ground.textOnly Go.Departure.lateStoresUnsure }, { on := 3, ground := Go.Ground.phase }], guard := none }) rfl (by kernel_rfl) (fun K hK => ?_)
    go_simp
    refine hK.out _ _ (fun h => by simp at h) (fun _ => ?_)
    clear hK K
    try simp only [Act.put, List.setIfInBounds_toArray, List.set_cons_zero, List.set_cons_succ]
    refine wpZ_one (i := 5) (oi := { dst := some 9, op := Go.Op.assign (Go.Operand.tmp 34), type := 34, pos := "law.go:128", after := #[{ on := 2, ground := Go.Ground.data }, { on := 4, ground := Go.Ground.chain }, { on := 0, ground := Go.Ground.phase }, { on := 1, ground := Go.Ground.phase }, { on := 2, ground := Go.Ground.phase }, { on := 3, ground := Go.Ground.phase }, { on := 4, ground := Go.Ground.phase }], guard := none }) rfl (by kernel_rfl) (fun K hK => ?_)
    go_simp
    refine hK.out _ _ (fun h => by simp at h) (fun _ => ?_)
    clear hK K
    try simp only [Act.put, List.setIfInBounds_toArray, List.set_cons_zero, List.set_cons_succ]
    refine wpZ_done (by kernel_rfl) ?_ _
    (first | (have HX := Lib.hid (factsA (S := fun _ => True) H5.out.1 H6.out.1 H6.out.2.2 KS.out 51); generalize w6.alloc (.cells #[.slice A0 l0 c0, .slice A1 l1 c1, .bool b, .int .i64 er, .slice A4 l4 c4] 51) = w8 at HX ⊢; generalize w6.heap.size = p8 at HX ⊢; clear H6) | (have HX := Lib.hid (factsB H5.out.1 H6.out.1 HA.out (by show w5.heap.size < (w5.alloc _).heap.size; simp) H6.out.2.2 KS.out z0 z1 z2 z3 z4); clear z0 z1 z2 z3 z4 y0 y1 y2 y3 y4; generalize ((((w6.setCell ⟨w5.heap.size, 0, none⟩ (.slice A0 l0 c0)).setCell ⟨w5.heap.size, 1, none⟩ (.slice A1 l1 c1)).setCell ⟨w5.heap.size, 2, none⟩ (.bool b)).setCell ⟨w5.heap.size, 3, none⟩ (.int .i64 er)).setCell ⟨w5.heap.size, 4, none⟩ (.slice A4 l4 c4) = w8 at HX ⊢; clear H6 HA; generalize w5.heap.size = p8 at HX ⊢)); clear H5 KS; go_wp2_with fail; refine (none_0 (iv := .pointer (some ⟨ip.blk, ip.off, none⟩)) HX.out.2.1.2.2.1 qm (.inr HQ.out)).mono ?_; rintro e w9 ⟨rfl, hw9⟩; subst hw9; go_wp2_with fail; have HD := factsD HX.out 26 51; clear HX; generalize hsz : w9.heap.size = sz at HD ⊢; clear hsz; generalize (w9.alloc (.cells #[.int .u64 5] 26)).alloc (.cells #[.slice none 0 0, .slice none 0 0, .bool true, .int .i64 0, .slice (some ⟨sz, 0, none⟩) 1 1] 51) = wD at HD ⊢; obtain ⟨hb8, ⟨c0', c1', c2', c3', c4'⟩, ⟨p0', p1', p2', p3', p4'⟩, ⟨g2, g4⟩, hST⟩ := HD; have HST := Lib.hid (And.intro hb8 hST); clear hb8 hST; refine (none_0 (iv := .pointer (some ⟨ip.blk, ip.off, none⟩)) g2 n (.inl rfl)).mono ?_; rintro e wE ⟨rfl, hwE⟩; subst hwE; go_wp2_with fail; have HSC := HST.out.2.choose_spec.choose_spec.2.sameConfig (x0 := .slice A0 l0 c0) (x1 := .slice A1 l1 c1) (x2 := .bool b) (x3 := .int .i64 er) (x4 := .slice A4 l4 c4) c0' c1' c2' c3' c4'; refine HSC.mono ?_; rintro e wF ⟨rfl, hbF⟩; have k2 := hbF.keep g2; have k4 := hbF.keep g4; have HT := Lib.hid (And.intro (HST.out.1.trans (hbF.mono HST.out.1.size)) (HST.out.2.choose_spec.choose_spec.2.below hbF)); clear HSC hbF c0' c1' c2' c3' c4' p0' p1' p2' p3' p4' g2 g4; go_wp2_with fail; refine HT.out.2.same.mono ?_; rintro e wG ⟨rfl, hbG⟩; have HZ := Lib.hid (HT.out.1.trans (hbG.mono HT.out.1.size)); clear hbG; go_wp2; go_ret; exact ⟨rfl, HZ.out⟩
  ·
    go_simp; have hcur := hHeld.2.2.2.2.2.trans ((Below.refl w5.heap.size _).alloc hHeld.2.2.2.2.2.size (.cells #[.slice none 0 0, .slice none 0 0, .bool false, .int .i64 0, .slice none 0 0] 51)); clear hHeld
    refine hK.out _ _ (fun _ => by (exact KS.out _ (by first | exact hcur | exact ⟨rfl, rfl, rfl, Nat.le_refl _, fun _ _ => rfl⟩))) (fun hh => ?_)
    have hHeld := hh rfl
    clear hK K
    try simp only [Act.put, List.setIfInBounds_toArray, List.set_cons_zero, List.set_cons_succ]
    refine wpZ_one (i := 2) (oi := { dst := some 34, op := Go.Op.call { callee := Go.Callee.value (Go.Operand.func 23), args := #[Go.Operand.tmp 33], argTypes := #[34] }, type := 34, pos := "law.go:128", after := #[{ on := 1, ground := Go.Ground.data }], guard := none }) rfl (by kernel_rfl) (fun K hK => ?_)
    go_simp; have hbase := hHeld.2.2.2.2.2; have HST := H5.out.2.copy hbase; have HA := Lib.hid hbase; clear hHeld; refine HST.mono ?_; rintro e w6 ⟨xp, rfl, hb6, hS6⟩; have hcur := hbase.trans (hb6.mono hbase.size); have H6 := Lib.hid (And.intro hcur (And.intro hb6 hS6)); first | (with_reducible have FV := five_alloc w5 w6 51 hb6; obtain ⟨z0, z1, z2, z3, z4, y0, y1, y2, y3, y4⟩ := FV) | skip; clear hb6 hS6 hbase HST; go_wp2_with fail
    refine hK.out _ _ (fun _ => by (exact KS.out _ (by first | exact hcur | exact ⟨rfl, rfl, rfl, Nat.le_refl _, fun _ _ => rfl⟩))) (fun hh => ?_)
    have hHeld := hh rfl
    clear hK K
    try simp only [Act.put, List.setIfInBounds_toArray, List.set_cons_zero, List.set_cons_succ]
    refine wpZ_one (i := 4) (oi := { dst := none, op := Go.Op.store 51 (Go.Operand.tmp 8) (Go.Operand.tmp 32), type := 0, pos := "law.go:128", after := #[{ on := 3, ground := Go.Ground.data }, { on := 0, ground := Go.Ground.data }, { on := 2, ground := Go.Ground.chain }, { on := 0, ground := Go.Ground.phase }, { on := 1, ground := Go.Ground.textOnly Go.Departure.lateStores }, { on := 2, ground := Go.Ground.textOnly Go.Departure.lateStoresUnsure }, { on := 3, ground := Go.Ground.phase }], guard := none }) rfl (by kernel_rfl) (fun K hK => ?_)
    go_simp
    refine hK.out _ _ (fun h => by simp at h) (fun _ => ?_)
    clear hK K
    try simp only [Act.put, List.setIfInBounds_toArray, List.set_cons_zero, List.set_cons_succ]
    refine wpZ_one (i := 5) (oi := { dst := some 9, op := Go.Op.assign (Go.Operand.tmp 34), type := 34, pos := "law.go:128", after := #[{ on := 2, ground := Go.Ground.data }, { on := 4, ground := Go.Ground.chain }, { on := 0, ground := Go.Ground.phase }, { on := 1, ground := Go.Ground.phase }, { on := 2, ground := Go.Ground.phase }, { on := 3, ground := Go.Ground.phase }, { on := 4, ground := Go.Ground.phase }], guard := none }) rfl (by kernel_rfl) (fun K hK => ?_)
    go_simp
    refine hK.out _ _ (fun h => by simp at h) (fun _ => ?_)
    clear hK K
    try simp only [Act.put, List.setIfInBounds_toArray, List.set_cons_zero, List.set_cons_succ]
    refine wpZ_done (by kernel_rfl) ?_ _
    (first | (have HX := Lib.hid (factsA (S := fun _ => True) H5.out.1 H6.out.1 H6.out.2.2 KS.out 51); generalize w6.alloc (.cells #[.slice A0 l0 c0, .slice A1 l1 c1, .bool b, .int .i64 er, .slice A4 l4 c4] 51) = w8 at HX ⊢; generalize w6.heap.size = p8 at HX ⊢; clear H6) | (have HX := Lib.hid (factsB H5.out.1 H6.out.1 HA.out (by show w5.heap.size < (w5.alloc _).heap.size; simp) H6.out.2.2 KS.out z0 z1 z2 z3 z4); clear z0 z1 z2 z3 z4 y0 y1 y2 y3 y4; generalize ((((w6.setCell ⟨w5.heap.size, 0, none⟩ (.slice A0 l0 c0)).setCell ⟨w5.heap.size, 1, none⟩ (.slice A1 l1 c1)).setCell ⟨w5.heap.size, 2, none⟩ (.bool b)).setCell ⟨w5.heap.size, 3, none⟩ (.int .i64 er)).setCell ⟨w5.heap.size, 4, none⟩ (.slice A4 l4 c4) = w8 at HX ⊢; clear H6 HA; generalize w5.heap.size = p8 at HX ⊢)); clear H5 KS; go_wp2_with fail; refine (none_0 (iv := .pointer (some ⟨ip.blk, ip.off, none⟩)) HX.out.2.1.2.2.1 qm (.inr HQ.out)).mono ?_; rintro e w9 ⟨rfl, hw9⟩; subst hw9; go_wp2_with fail; have HD := factsD HX.out 26 51; clear HX; generalize hsz : w9.heap.size = sz at HD ⊢; clear hsz; generalize (w9.alloc (.cells #[.int .u64 5] 26)).alloc (.cells #[.slice none 0 0, .slice none 0 0, .bool true, .int .i64 0, .slice (some ⟨sz, 0, none⟩) 1 1] 51) = wD at HD ⊢; obtain ⟨hb8, ⟨c0', c1', c2', c3', c4'⟩, ⟨p0', p1', p2', p3', p4'⟩, ⟨g2, g4⟩, hST⟩ := HD; have HST := Lib.hid (And.intro hb8 hST); clear hb8 hST; refine (none_0 (iv := .pointer (some ⟨ip.blk, ip.off, none⟩)) g2 n (.inl rfl)).mono ?_; rintro e wE ⟨rfl, hwE⟩; subst hwE; go_wp2_with fail; have HSC := HST.out.2.choose_spec.choose_spec.2.sameConfig (x0 := .slice A0 l0 c0) (x1 := .slice A1 l1 c1) (x2 := .bool b) (x3 := .int .i64 er) (x4 := .slice A4 l4 c4) c0' c1' c2' c3' c4'; refine HSC.mono ?_; rintro e wF ⟨rfl, hbF⟩; have k2 := hbF.keep g2; have k4 := hbF.keep g4; have HT := Lib.hid (And.intro (HST.out.1.trans (hbF.mono HST.out.1.size)) (HST.out.2.choose_spec.choose_spec.2.below hbF)); clear HSC hbF c0' c1' c2' c3' c4' p0' p1' p2' p3' p4' g2 g4; go_wp2_with fail; refine HT.out.2.same.mono ?_; rintro e wG ⟨rfl, hbG⟩; have HZ := Lib.hid (HT.out.1.trans (hbG.mono HT.out.1.size)); clear hbG; go_wp2; go_ret; exact ⟨rfl, HZ.out⟩
end Go.Vm.Sl
