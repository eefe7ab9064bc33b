/- The law HouseRooms: how the rooms are made. -/
import Derived.Test.YtlaeoahhfalkiaaGreatDoorRoomsS
set_option linter.unusedVariables false
namespace Go.Vm.Hr
open Go.Vm Go.Proofs Go.RowKit
/-- What has been made since is kept too. -/
theorem since {n : Nat} {G : Nat → Option Obj} {M : Mp} {T : Tr Ob} {w cur : World} (r : Rel e0 (none0 n G) M T w) (hb : Below w.heap.size w cur) :
    Rel e0 ⟨n, fun k => cur.heap[k]?, fun k => w.heap.size ≤ k ∧ k < cur.heap.size⟩ M T cur := by
  refine raise (r.below hb) _ (fun k h => h.2) (fun b pl ob g1 g2 _ g4 => ?_)
  obtain ⟨pl', q1, _, _, _, q5⟩ := r.row b ob g1
  rw [g2] at q1; cases q1
  omega
def fixT (i : Nat) : Nat := min i 8
def FxR (i : Nat) : Prop := ∀ (n : Nat) (G : Nat → Option Obj) (M : Mp) (w cur : World) (hp : Pl), M 64 = some hp → Rel e0 (none0 n G) M (TB (fixT i)) w → Below w.heap.size w cur →
  Calls Tryz.prog 9 #[] cur fun e w' => ∃ r M', e = .returned r ∧ Below n cur w' ∧ (∀ k, w.heap.size ≤ k → k < cur.heap.size → w'.heap[k]? = cur.heap[k]?) ∧ M' 64 = some hp ∧ Rel e0 (none0 n G) M' (TX i) w' ∧ VR e0 M' (VX i) r
theorem fxR {i : Nat} {lf : Lf} {T : Tr Ob} (ht : TB (fixT i) = T) (hr : CoversL (fun pc => evCall { cxb with pc := pc } 100000 9 [] (.mk T 1000 .off)) (.leaf lf) []) (hs : lf.s = []) (hv : lf.v = VX i) (hT : lf.T = TX i) (hk : sg lf.T lf.l 64 = some 64) : FxR i := by
  subst ht
  intro n G M w cur hp hM R hb
  refine (tree_rel hT_b mixed_ok hF_b (by decide) hr trivial (since R hb) .nil).mono ?_
  rintro e w' ⟨r, rfl, hb', M', q, R', v⟩
  rw [hs, ev0] at R' v
  rw [hv] at v
  rw [hT] at R'
  refine ⟨r, M', rfl, hb', fun k h1 h2 => (R'.kept k ⟨h1, h2⟩).2, q 64 hp hk hM, lower R' fun k hk => ?_, v⟩
  exact ((R.below hb).old k hk)
def MkR (i : Nat) (a b : Int) : Prop := ∀ (n : Nat) (G : Nat → Option Obj) (M : Mp) (w cur : World) (hp : Pl) (r : Value), M 64 = some hp → Rel e0 (none0 n G) M (TX i) w → VR e0 M (VX i) r → Below w.heap.size w cur →
  Calls Tryz.prog 8 #[.pointer (some ⟨hp.blk, hp.off, none⟩), r, .string ⟨#[114, UInt8.ofNat (97 + i)]⟩] cur fun e w' => e = .returned (.tuple #[.int .i64 a, .int .i64 b]) ∧ Below n cur w' ∧ ∃ M', M' 64 = some hp ∧ Rel e0 (none0 n G) M' (TM i) w'
theorem mkR {i : Nat} {a b : Int} {lf : Lf} {T : Tr Ob} (ht : TX i = T) (hr : CoversL (fun pc => evCall { cxb with pc := pc } 100000 8 [.p (some (64, 0)), VX i, .s [(114, 1), (97 + i, 1)]] (.mk T 1000 .off)) (.leaf lf) []) (hs : lf.s = [])
    (hv : lf.v = .tup [.i .i64 (.c a), .i .i64 (.c b)]) (hT : lf.T = TM i) (hk : sg lf.T lf.l 64 = some 64) (hstr : VR e0 (fun _ => none) (.s [(114, 1), (97 + i, 1)]) (.string ⟨#[114, UInt8.ofNat (97 + i)]⟩)) : MkR i a b := by
  subst ht
  intro n G M w cur hp r hM R v hb
  refine (tree_rel hT_b mixed_ok hF_b (by decide) hr trivial (R.below hb) (.cons _ _ _ _ (.p0 64 hp hM) (.cons _ _ _ _ v (.cons _ _ _ _ (hstr.mono fun _ _ h => by cases h) .nil)))).mono ?_
  rintro e w' ⟨r, rfl, hb', M', q, R', v⟩
  rw [hs, ev0] at R' v
  rw [hv] at v
  rw [hT] at R'
  obtain ⟨x0, x1, rfl, v0, v1⟩ := v.tup2
  cases v0.intv
  cases v1.intv
  exact ⟨rfl, hb', M', q 64 hp hk hM, R'⟩
def IvR (i : Nat) : Prop := ∀ (n : Nat) (G : Nat → Option Obj) (M : Mp) (w cur : World) (hp : Pl) (t : TypeId), M 64 = some hp → Rel e0 (none0 n G) M (TM i) w → Below w.heap.size w cur →
  Calls Tryz.prog 10 #[.pointer (some ⟨hp.blk, hp.off, none⟩), .int .i64 (i : Int), .int .u64 (i : Int), .string ⟨#[105, 110, 99]⟩, .int .u64 0, .slice (some ⟨cur.heap.size, 0, none⟩) 1 1] (cur.alloc (.cells #[.int .u64 ((10 * i : Nat) : Int)] t)) fun e w' =>
    e = .returned (.int .i64 0) ∧ Below n cur w' ∧ ∃ M', M' 64 = some hp ∧ Rel e0 (none0 n G) M' (TB (i + 1)) w'
theorem ivR {i : Nat} {lf : Lf} {T : Tr Ob} (ht : Tr.set (TM i) 990 (.cells 43 1 true true [(.i .u64 (.c (.ofNat (10 * i))), 1)]) = T) (hn : hasB ((TM i).get 990) = false)
    (hr : CoversL (fun pc => evCall { cxb with pc := pc } 100000 10 [.p (some (64, 0)), .i .i64 (.c (.ofNat i)), .i .u64 (.c (.ofNat i)), .s [(105, 1), (110, 1), (99, 1)], .i .u64 (.c (.ofNat 0)), .sl (some (990, 0)) 1 1] (.mk T 1000 .off)) (.leaf lf) [])
    (hs : lf.s = []) (hv : lf.v = .i .i64 (.c (.ofNat 0))) (hT : lf.T = TB (i + 1)) (hk : sg lf.T lf.l 64 = some 64) : IvR i := by
  subst ht
  intro n G M w cur hp t hM R hb
  have Rc := R.below hb
  have hn0 : (TM i).get 990 = none := by
    cases e : (TM i).get 990 with
    | none => rfl
    | some ob => rw [e] at hn; cases hn
  have hsz := Rc.size
  have hb0 : Below n cur (cur.alloc (.cells #[.int .u64 ((10 * i : Nat) : Int)] t)) := push_below hsz _
  have R1 := Rc.alloc (n := 990) hn0 (by decide) (cs := [(.i .u64 (.c (.ofNat (10 * i))), 1)]) (xs := [.int .u64 ((10 * i : Nat) : Int)]) (.cons _ _ _ _ (.i _ _) .nil) 43 t 1
  have hM1 : M.add 990 ⟨cur.heap.size, 0, 1, 1, false⟩ 64 = some hp := hM
  refine (tree_rel hT_b mixed_ok hF_b (by decide) hr trivial R1 (.cons _ _ _ _ (.p0 64 hp hM1) (.cons _ _ _ _ (.i _ _) (.cons _ _ _ _ (.i _ _) (.cons _ _ _ _ (ofValue_ok _ _ rfl) (.cons _ _ _ _ (.i _ _) (.cons _ _ _ _ (.sl 990 0 1 1 1 ⟨cur.heap.size, 0, 1, 1, false⟩ ⟨cur.heap.size, 0, none⟩ rfl (by decide) (by simp) (.inl rfl) (by decide)) .nil))))))).mono ?_
  rintro e w' ⟨r, rfl, hb', M', q, R', v⟩
  rw [hs, ev0] at R' v
  rw [hv] at v
  rw [hT] at R'
  cases v.intv
  exact ⟨rfl, hb0.trans hb', M', q 64 hp hk hM1, R'⟩
theorem fx0 : FxR 0 := fxR (lf := Fixed0_0) rfl Fixed0_r rfl rfl (by kernel_rfl) (by kernel_rfl)
theorem mk0 : MkR 0 0 0 := mkR (lf := Make0_0) rfl Make0_r rfl rfl (by kernel_rfl) (by kernel_rfl) (ofValue_ok _ _ rfl)
theorem iv0 : IvR 0 := ivR (lf := Inv0_0) rfl (by kernel_rfl) Inv0_r rfl rfl (by kernel_rfl) (by kernel_rfl)
theorem fx1 : FxR 1 := fxR (lf := Fixed1_0) rfl Fixed1_r rfl rfl (by kernel_rfl) (by kernel_rfl)
theorem mk1 : MkR 1 1 0 := mkR (lf := Make1_0) rfl Make1_r rfl rfl (by kernel_rfl) (by kernel_rfl) (ofValue_ok _ _ rfl)
theorem iv1 : IvR 1 := ivR (lf := Inv1_0) rfl (by kernel_rfl) Inv1_r rfl rfl (by kernel_rfl) (by kernel_rfl)
theorem fx2 : FxR 2 := fxR (lf := Fixed2_0) rfl Fixed2_r rfl rfl (by kernel_rfl) (by kernel_rfl)
theorem mk2 : MkR 2 2 0 := mkR (lf := Make2_0) rfl Make2_r rfl rfl (by kernel_rfl) (by kernel_rfl) (ofValue_ok _ _ rfl)
theorem iv2 : IvR 2 := ivR (lf := Inv2_0) rfl (by kernel_rfl) Inv2_r rfl rfl (by kernel_rfl) (by kernel_rfl)
theorem fx3 : FxR 3 := fxR (lf := Fixed3_0) rfl Fixed3_r rfl rfl (by kernel_rfl) (by kernel_rfl)
theorem mk3 : MkR 3 3 0 := mkR (lf := Make3_0) rfl Make3_r rfl rfl (by kernel_rfl) (by kernel_rfl) (ofValue_ok _ _ rfl)
theorem iv3 : IvR 3 := ivR (lf := Inv3_0) rfl (by kernel_rfl) Inv3_r rfl rfl (by kernel_rfl) (by kernel_rfl)
theorem fx4 : FxR 4 := fxR (lf := Fixed4_0) rfl Fixed4_r rfl rfl (by kernel_rfl) (by kernel_rfl)
theorem mk4 : MkR 4 4 0 := mkR (lf := Make4_0) rfl Make4_r rfl rfl (by kernel_rfl) (by kernel_rfl) (ofValue_ok _ _ rfl)
theorem iv4 : IvR 4 := ivR (lf := Inv4_0) rfl (by kernel_rfl) Inv4_r rfl rfl (by kernel_rfl) (by kernel_rfl)
theorem fx5 : FxR 5 := fxR (lf := Fixed5_0) rfl Fixed5_r rfl rfl (by kernel_rfl) (by kernel_rfl)
theorem mk5 : MkR 5 5 0 := mkR (lf := Make5_0) rfl Make5_r rfl rfl (by kernel_rfl) (by kernel_rfl) (ofValue_ok _ _ rfl)
theorem iv5 : IvR 5 := ivR (lf := Inv5_0) rfl (by kernel_rfl) Inv5_r rfl rfl (by kernel_rfl) (by kernel_rfl)
theorem fx6 : FxR 6 := fxR (lf := Fixed6_0) rfl Fixed6_r rfl rfl (by kernel_rfl) (by kernel_rfl)
theorem mk6 : MkR 6 6 0 := mkR (lf := Make6_0) rfl Make6_r rfl rfl (by kernel_rfl) (by kernel_rfl) (ofValue_ok _ _ rfl)
theorem iv6 : IvR 6 := ivR (lf := Inv6_0) rfl (by kernel_rfl) Inv6_r rfl rfl (by kernel_rfl) (by kernel_rfl)
theorem fx7 : FxR 7 := fxR (lf := Fixed7_0) rfl Fixed7_r rfl rfl (by kernel_rfl) (by kernel_rfl)
theorem mk7 : MkR 7 7 0 := mkR (lf := Make7_0) rfl Make7_r rfl rfl (by kernel_rfl) (by kernel_rfl) (ofValue_ok _ _ rfl)
theorem iv7 : IvR 7 := ivR (lf := Inv7_0) rfl (by kernel_rfl) Inv7_r rfl rfl (by kernel_rfl) (by kernel_rfl)
theorem fx8 : FxR 8 := fxR (lf := Fixed8_0) rfl Fixed8_r rfl rfl (by kernel_rfl) (by kernel_rfl)
theorem mk8 : MkR 8 0 12 := mkR (lf := Make8_0) rfl Make8_r rfl rfl (by kernel_rfl) (by kernel_rfl) (ofValue_ok _ _ rfl)
theorem fx9 : FxR 9 := fxR (lf := Fixed9_0) rfl Fixed9_r rfl rfl (by kernel_rfl) (by kernel_rfl)
theorem mk9 : MkR 9 0 12 := mkR (lf := Make9_0) rfl Make9_r rfl rfl (by kernel_rfl) (by kernel_rfl) (ofValue_ok _ _ rfl)
def RmR (m : Nat) : Prop := ∀ (n0 : Old) (M : Mp) (w : World) (hp : Pl), M 64 = some hp → Rel e0 n0 M (TC m) w →
  Calls Tryz.prog 12 #[.pointer (some ⟨hp.blk, hp.off, none⟩)] w fun e w' => e = .returned (.int .i64 (m : Int)) ∧ Below n0.n w w'
theorem rmR {m : Nat} {lf : Lf} {T : Tr Ob} (ht : TC m = T) (hr : CoversL (fun pc => evCall { cxb with pc := pc } 100000 12 [.p (some (64, 0))] (.mk T 1000 .off)) (.leaf lf) []) (hv : lf.v = .i .i64 (.c (.ofNat m))) : RmR m := by
  subst ht
  intro n0 M w hp hM R
  refine (tree_rel hT_b mixed_ok hF_b (by decide) hr trivial R (.cons _ _ _ _ (.p0 64 hp hM) .nil)).mono ?_
  rintro e w' ⟨r, rfl, hb', M', q, R', v⟩
  rw [hv] at v
  cases v.intv
  exact ⟨rfl, hb'⟩
theorem rm0 : RmR 0 := rmR (lf := Rooms0_0) rfl Rooms0_r rfl
theorem rm1 : RmR 1 := rmR (lf := Rooms1_0) rfl Rooms1_r rfl
theorem rm2 : RmR 2 := rmR (lf := Rooms2_0) rfl Rooms2_r rfl
theorem rm3 : RmR 3 := rmR (lf := Rooms3_0) rfl Rooms3_r rfl
theorem rm4 : RmR 4 := rmR (lf := Rooms4_0) rfl Rooms4_r rfl
theorem rm5 : RmR 5 := rmR (lf := Rooms5_0) rfl Rooms5_r rfl
theorem rm6 : RmR 6 := rmR (lf := Rooms6_0) rfl Rooms6_r rfl
theorem rm7 : RmR 7 := rmR (lf := Rooms7_0) rfl Rooms7_r rfl
theorem rm8 : RmR 8 := rmR (lf := Rooms8_0) rfl Rooms8_r rfl
theorem rm_all (m : Nat) (h : m ≤ 8) : RmR m := by
  rcases (by omega : m = 0 ∨ m = 1 ∨ m = 2 ∨ m = 3 ∨ m = 4 ∨ m = 5 ∨ m = 6 ∨ m = 7 ∨ m = 8) with rfl | rfl | rfl | rfl | rfl | rfl | rfl | rfl | rfl
  · exact rm0
  · exact rm1
  · exact rm2
  · exact rm3
  · exact rm4
  · exact rm5
  · exact rm6
  · exact rm7
  · exact rm8
/-- What is shared, out of the state of all. -/
theorem Sg.com {n : Nat} {G : Nat → Option Obj} {m D : Nat} {hp : Pl} {w : World} {ss : Nat → Nat} (H : Sg n G m D hp w ss) (h1 : 1 ≤ m) (h8 : m ≤ 8) : ∃ M, M 64 = some hp ∧ Rel e0 (none0 n G) M (TC m) w := by
  obtain ⟨Mc, Ms, h, _⟩ := H
  have ck := ck_all m 0 (ss 0) h1 h8 (by omega) (h 0 (by omega)).2.1
  injection ck with a b
  have R := (h 0 (by omega)).1.told b
  rw [ev0] at R
  refine ⟨_, ?_, R⟩
  show (sg (TC m) [] 64).bind (Ms 0) = some hp
  have h64 := has64 m h1 h8
  cases e : (TC m).get 64 with
  | none => rw [e] at h64; cases h64
  | some ob => rw [sg_some e]; exact (h 0 (by omega)).2.2.2
/-- The block beside is turned. -/
theorem Sg.setD {n : Nat} {G : Nat → Option Obj} {m D : Nat} {hp : Pl} {w w' : World} {ss : Nat → Nat} (H : Sg n G m D hp w ss) (hn : n ≤ D) (hk : ∀ k, k ≠ D → w'.heap[k]? = w.heap[k]?) (hs : w'.heap.size = w.heap.size) : Sg n G m D hp w' ss := by
  obtain ⟨Mc, Ms, h, sep, hD, hDn⟩ := H
  refine ⟨Mc, Ms, fun y hy => ⟨?_, (h y hy).2⟩, sep, by rw [hs]; exact hD, hDn⟩
  have r := (h y hy).1
  refine ⟨r.dom, fun b ob hb => ?_, r.inj, by rw [hs]; exact r.size, fun k hk' => (hk k (by have : k < n := hk'; omega)).trans (r.old k hk'), fun _ h => h.elim, fun _ _ _ _ _ _ _ h => h⟩
  obtain ⟨pl, q1, q2, q3, q4, q5⟩ := r.row b ob hb
  exact ⟨pl, q1, q2.mono (Mp.le_refl _) (fun hal => hk _ (hDn y hy b pl ob hb q1 hal)), q3, q4, by rw [hs]; exact q5⟩
end Go.Vm.Hr
