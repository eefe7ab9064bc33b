/- The law HouseRooms: the state of all rooms, and what a pick makes of it. -/
import Derived.Test.YtlaeoahhfalkiaaGreatDoorRoomsP
set_option linter.unusedVariables false
namespace Go.Vm.Hr
open Go.Vm Go.Proofs Go.RowKit
def Sg (n : Nat) (G : Nat → Option Obj) (m D : Nat) (hp : Pl) (w : World) (ss : Nat → Nat) : Prop := ∃ (Mc : Mp) (Ms : Nat → Mp),
  (∀ y, y < m → Rel e0 (none0 n G) (Ms y) (TF m (ss y) y) w ∧ ss y ≤ 2 ∧ mpS (sg (TC m) []) (Ms y) = Mc ∧ Ms y 64 = some hp) ∧
  (∀ y y', y < m → y' < m → y ≠ y' → ∀ b pl ob b' pl' ob', (TF m (ss y) y).get b = some ob → Ms y b = some pl → aliveO ob = true → aliveC (TC m) b = false →
    (TF m (ss y') y').get b' = some ob' → Ms y' b' = some pl' → aliveO ob' = true → aliveC (TC m) b' = false → pl.blk ≠ pl'.blk) ∧
  D < w.heap.size ∧ (∀ y, y < m → ∀ b pl ob, (TF m (ss y) y).get b = some ob → Ms y b = some pl → aliveO ob = true → pl.blk ≠ D)
theorem has64 (m : Nat) (h1 : 1 ≤ m) (h8 : m ≤ 8) : hasB ((TC m).get 64) = true := by
  have z : ∀ i : Fin 8, hasB ((TC (i.val + 1)).get 64) = true := by
    intro i
    match i with
    | ⟨0, _⟩ => exact z1
    | ⟨1, _⟩ => exact z2
    | ⟨2, _⟩ => exact z3
    | ⟨3, _⟩ => exact z4
    | ⟨4, _⟩ => exact z5
    | ⟨5, _⟩ => exact z6
    | ⟨6, _⟩ => exact z7
    | ⟨7, _⟩ => exact z8
  have := z ⟨m - 1, by omega⟩
  simpa [show m - 1 + 1 = m by omega] using this
theorem look_nil (b : Nat) : look [] b = b := rfl
theorem chkC_ro {T TC : Tr Ob} (h : chkC T TC = true) {b : Nat} {ob : Ob} (hb : T.get b = some ob) : RO ≤ b := by
  have := allT_get h hb
  simp only [Bool.and_eq_true] at this
  exact Nat.le_of_ble_eq_true this.1
theorem chkC_mO {T TC : Tr Ob} (h : chkC T TC = true) {b : Nat} {ob obC : Ob} (hb : T.get b = some ob) (hc : TC.get b = some obC) (hal : aliveO obC = true) : mO (fun b => some b) (fun i => .v i) ob (some obC) = true := by
  have := allT_get h hb
  simp only [Bool.and_eq_true] at this
  have h2 := this.2
  rw [hc] at h2
  simpa [hal] using h2
theorem chkH_get {T h : Tr Ob} {l : List (Nat × Nat)} {s : Nat → IE} (hc : chkH T h l s = true) {b : Nat} {ob : Ob} (hb : T.get b = some ob) : mO (sg T l) s ob (h.get (look l b)) = true := by
  simp only [chkH, Bool.and_eq_true] at hc
  exact allT_get hc.2 hb
theorem sg_some {T : Tr Ob} {b : Nat} {ob : Ob} (h : T.get b = some ob) : sg T [] b = some b := by unfold sg; rw [h]; rfl
theorem sg_none {T : Tr Ob} {l : List (Nat × Nat)} {b : Nat} (h : T.get b = none) : sg T l b = none := by unfold sg; rw [h]; rfl
theorem Sg.pick {n : Nat} {G : Nat → Option Obj} {m D : Nat} {hp : Pl} {w : World} {ss : Nat → Nat} (H : Sg n G m D hp w ss) (h1 : 1 ≤ m) (h8 : m ≤ 8) {x : Nat} (hx : x < m) :
    Calls Tryz.prog 11 #[.pointer (some ⟨hp.blk, hp.off, none⟩), .int .i64 (x : Int), .int .i64 3] w fun e w' => ∃ r, e = .returned r ∧ Below n w w' ∧ w'.heap[D]? = w.heap[D]? ∧
      Sg n G m D hp w' (fun y => if y = x then nx (ss y) else ss y) ∧ ((ss x = 1 ∧ EndR r w' x ((10 * x : Nat) : Int)) ∨ (ss x ≠ 1 ∧ r = .slice none 0 0)) := by
  obtain ⟨Mc, Ms, h, sep, hD, hDn⟩ := H
  have ck : ∀ y s, y < m → s ≤ 2 → chkC (TF m s y) (TC m) = true ∧ chkH (TC m) (TF m s y) [] (sAt []) = true := by
    intro y s hy hs
    have := ck_all m y s h1 h8 hy hs
    injection this with a b
    exact ⟨a, b⟩
  have K0 : ∃ K : Nat → Prop, K = fun k => k = D ∨ ∃ y b pl ob, y < m ∧ y ≠ x ∧ (TF m (ss y) y).get b = some ob ∧ Ms y b = some pl ∧ aliveO ob = true ∧ aliveC (TC m) b = false ∧ pl.blk = k := ⟨_, rfl⟩
  obtain ⟨K, hKd⟩ := K0
  have RK : Rel e0 ⟨n, fun k => w.heap[k]?, K⟩ (Ms x) (TF m (ss x) x) w := by
    refine raise (h x hx).1 K (fun k hk => ?_) (fun b pl ob hb hM hal hk => ?_)
    · rw [hKd] at hk
      rcases hk with rfl | ⟨y, b, pl, ob, hy, _, g1, g2, g3, g4, rfl⟩
      · exact hD
      · obtain ⟨pl', q1, _, _, _, q5⟩ := (h y hy).1.row b ob g1
        rw [g2] at q1; cases q1
        exact q5
    · rw [hKd] at hk
      rcases hk with hk | ⟨y, b', pl', ob', hy, hyx, g1, g2, g3, g4, g5⟩
      · exact hDn x hx b pl ob hb hM hal hk
      · cases hCa : aliveC (TC m) b with
        | false => exact sep x y hx hy (Ne.symm hyx) b pl ob b' pl' ob' hb hM hal hCa g1 g2 g3 g4 g5.symm
        | true =>
          obtain ⟨obC, hC, halC⟩ := aliveC_get hCa
          have hm := chkH_get (ck y (ss y) hy (h y hy).2.1).2 hC
          obtain ⟨oby, hoy⟩ := mO_some _ _ hm
          rw [hoy] at hm
          have haly := mO_alive _ _ hm halC
          rw [look_nil] at hoy
          have e1 : Ms y b = some pl := by
            have ex := congrFun (h x hx).2.2.1 b
            have ey := congrFun (h y hy).2.2.1 b
            have ex : (sg (TC m) [] b).bind (Ms x) = Mc b := ex
            have ey : (sg (TC m) [] b).bind (Ms y) = Mc b := ey
            rw [sg_some hC] at ex ey
            have ex : Ms x b = Mc b := ex
            have ey : Ms y b = Mc b := ey
            rw [ey, ← ex]; exact hM
          have := (h y hy).1.inj b b' oby ob' pl pl' hoy g1 haly g3 (chkC_ro (ck y (ss y) hy (h y hy).2.1).1 hoy) (chkC_ro (ck y (ss y) hy (h y hy).2.1).1 g1) e1 g2 g5.symm
          subst this
          rw [hCa] at g4; cases g4
  refine (pk_all m x (ss x) h1 h8 hx (h x hx).2.1 _ (Ms x) w hp (h x hx).2.2.2 RK).mono ?_
  rintro e w' ⟨r, M', rfl, hb, R', keep, res⟩
  have kept : ∀ k, K k → w'.heap[k]? = w.heap[k]? := fun k hk => (R'.kept k hk).2
  have hs' : nx (ss x) ≤ 2 := by unfold nx; omega
  have RC := R'.told (ck x (nx (ss x)) hx hs').2
  have com : mpS (sg (TC m) []) M' = Mc := by
    rw [← (h x hx).2.2.1]
    funext b
    show (sg (TC m) [] b).bind M' = (sg (TC m) [] b).bind (Ms x)
    cases hC : (TC m).get b with
    | none => rw [sg_none hC]; rfl
    | some obC =>
      rw [sg_some hC]
      show M' b = Ms x b
      obtain ⟨pl, q1, _⟩ := ((h x hx).1.told (ck x (ss x) hx (h x hx).2.1).2).row b obC hC
      have q1 : (sg (TC m) [] b).bind (Ms x) = some pl := q1
      rw [sg_some hC] at q1
      have q1 : Ms x b = some pl := q1
      rw [q1]
      exact keep b pl (by rw [hC]; simp) q1
  rw [com] at RC
  refine ⟨r, rfl, hb, kept D (by rw [hKd]; exact .inl rfl), ⟨Mc, fun y => if y = x then M' else Ms y, fun y hy => ?_, fun y y' hy hy' hne => ?_, Nat.lt_of_lt_of_le hD hb.size, fun y hy b pl ob hbb hM hal => ?_⟩, res⟩
  · by_cases e : y = x
    · subst e
      simp only [if_true]
      refine ⟨lower R' fun k hk => (h y hx).1.old k hk, hs', com, keep 64 hp ?_ (h y hx).2.2.2⟩
      have := has64 m h1 h8
      intro e
      rw [e] at this; cases this
    · simp only [if_neg e]
      refine ⟨frame (h y hy).1 RC (h y hy).2.2.1 (ck y (ss y) hy (h y hy).2.1).1 (fun b pl ob g1 g2 g3 g4 => kept _ (by rw [hKd]; exact .inr ⟨y, b, pl, ob, hy, e, g1, g2, g3, g4, rfl⟩)) hb.size (fun k hk => hb.block k hk), (h y hy).2.1, (h y hy).2.2.1, (h y hy).2.2.2⟩
  · intro b pl ob b' pl' ob' g1 g2 g3 g4 k1 k2 k3 k4
    by_cases e : y = x
    · have e' : ¬ y' = x := fun e' => hne (e.trans e'.symm)
      subst e
      simp only [if_true] at g1 g2
      simp only [if_neg e'] at k1 k2
      intro hbk
      refine R'.apart b pl ob g1 g2 (chkC_ro (ck y (nx (ss y)) hx hs').1 g1) g3 ?_
      show K pl.blk
      rw [hKd]
      exact .inr ⟨y', b', pl', ob', hy', e', k1, k2, k3, k4, hbk.symm⟩
    · simp only [if_neg e] at g1 g2
      by_cases e' : y' = x
      · subst e'
        simp only [if_true] at k1 k2
        intro hbk
        refine R'.apart b' pl' ob' k1 k2 (chkC_ro (ck y' (nx (ss y')) hx hs').1 k1) k3 ?_
        show K pl'.blk
        rw [hKd]
        exact .inr ⟨y, b, pl, ob, hy, e, g1, g2, g3, g4, hbk⟩
      · simp only [if_neg e'] at k1 k2
        exact sep y y' hy hy' hne b pl ob b' pl' ob' g1 g2 g3 g4 k1 k2 k3 k4
  · by_cases e : y = x
    · subst e
      simp only [if_true] at hbb hM
      intro hbk
      refine R'.apart b pl ob hbb hM (chkC_ro (ck y (nx (ss y)) hx hs').1 hbb) hal ?_
      show K pl.blk
      rw [hKd]
      exact .inl hbk
    · simp only [if_neg e] at hbb hM
      exact hDn y hy b pl ob hbb hM hal
theorem Sg.start {n : Nat} {G : Nat → Option Obj} {m : Nat} {hp : Pl} {w : World} {M : Mp} (h1 : 1 ≤ m) (h8 : m ≤ 8) (R : Rel e0 (none0 n G) M (TB m) w) (hM : M 64 = some hp) (o : Obj) : Sg n G m w.heap.size hp (w.alloc o) (fun _ => 0) := by
  have st : ∀ y, y < m → chkH (TF m 0 y) (TB m) [] (sAt []) = true ∧ allT (fun b ob => aliveC (TC m) b || !aliveO ob || (Nat.ble (lowOf y) b && Nat.blt b (lowOf (y + 1)))) (TF m 0 y) 0 1 = true ∧ keepC (TC m) (TF m 0 y) [] = true := by
    intro y hy
    have := start_all m y h1 h8 hy
    injection this with a b
    injection b with b c
    exact ⟨a, b, c⟩
  have hbl : Below w.heap.size w (w.alloc o) := (Below.refl w.heap.size w).alloc (Nat.le_refl _) o
  have low : ∀ y b pl ob, y < m → (TF m 0 y).get b = some ob → mpS (sg (TF m 0 y) []) M b = some pl → aliveO ob = true → ∃ ob2, (TB m).get b = some ob2 ∧ aliveO ob2 = true ∧ M b = some pl ∧ pl.blk < w.heap.size := by
    intro y b pl ob hy hb hm hal
    have hm2 := chkH_get (st y hy).1 hb
    obtain ⟨ob2, h2⟩ := mO_some _ _ hm2
    rw [h2] at hm2
    rw [look_nil] at h2
    have hm : (sg (TF m 0 y) [] b).bind M = some pl := hm
    rw [sg_some hb] at hm
    have hm : M b = some pl := hm
    obtain ⟨pl', q1, _, _, _, q5⟩ := R.row b ob2 h2
    rw [hm] at q1; cases q1
    exact ⟨ob2, h2, mO_alive _ _ hm2 hal, hm, q5⟩
  refine ⟨mpS (sg (TC m) []) M, fun y => mpS (sg (TF m 0 y) []) M, fun y hy => ⟨?_, Nat.zero_le _, ?_, ?_⟩, fun y y' hy hy' hne b pl ob b' pl' ob' g1 g2 g3 g4 k1 k2 k3 k4 => ?_, by simp, fun y hy b pl ob g1 g2 g3 => ?_⟩
  · have := (R.below hbl).told (st y hy).1
    rw [ev0] at this
    exact this
  · funext b
    show (sg (TC m) [] b).bind (fun a => (sg (TF m 0 y) [] a).bind M) = (sg (TC m) [] b).bind M
    cases hC : (TC m).get b with
    | none => rw [sg_none hC]; rfl
    | some obC =>
      rw [sg_some hC]
      show (sg (TF m 0 y) [] b).bind M = M b
      rw [keepC_ok (st y hy).2.2 (by rw [hC]; simp)]
      rfl
  · show (sg (TF m 0 y) [] 64).bind M = some hp
    have h64 := has64 m h1 h8
    rw [keepC_ok (st y hy).2.2 (fun e => by rw [e] at h64; cases h64)]
    exact hM
  · obtain ⟨o2, a1, a2, a3, _⟩ := low y b pl ob hy g1 g2 g3
    obtain ⟨o2', a1', a2', a3', _⟩ := low y' b' pl' ob' hy' k1 k2 k3
    intro hbk
    have ran : ∀ y b ob, y < m → (TF m 0 y).get b = some ob → aliveO ob = true → aliveC (TC m) b = false → lowOf y ≤ b ∧ b < lowOf (y + 1) := by
      intro y b ob hy g1 g3 g4
      have := allT_get (st y hy).2.1 g1
      simp only [g3, g4, Bool.false_or, Bool.not_true, Bool.and_eq_true] at this
      exact ⟨Nat.le_of_ble_eq_true this.1, by simpa [Nat.blt_eq] using this.2⟩
    obtain ⟨z1, z2⟩ := ran y b ob hy g1 g3 g4
    obtain ⟨z3, z4⟩ := ran y' b' ob' hy' k1 k3 k4
    unfold lowOf at z1 z2 z3 z4
    have := R.inj b b' o2 o2' pl pl' a1 a1' a2 a2' (by show 64 ≤ b; omega) (by show 64 ≤ b'; omega) a3 a3' hbk
    omega
  · obtain ⟨o2, a1, a2, a3, a4⟩ := low y b pl ob hy g1 g2 g3
    omega
end Go.Vm.Hr
