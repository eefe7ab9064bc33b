/- The law HouseRooms: what a pick does in a house of several rooms: one room's state is told by itself, all others' blocks are kept. -/
import Derived.Test.YtlaeoahhfalkiaaGreatDoorHrR0
import Derived.Test.YtlaeoahhfalkiaaGreatDoorHrR1
import Derived.Test.YtlaeoahhfalkiaaGreatDoorHrR2
import Derived.Test.YtlaeoahhfalkiaaGreatDoorHrR3
import Derived.Test.YtlaeoahhfalkiaaGreatDoorHrR4
set_option linter.unusedVariables false
set_option maxRecDepth 100000
namespace Go.Vm.Hr
open Go.Vm Go.Proofs Go.RowKit
abbrev e0 : Nat → Int := fun _ => 0
theorem ev0 : envS e0 (sAt []) = e0 := by funext i; rfl
abbrev none0 (n : Nat) (G : Nat → Option Obj) : Old := ⟨n, G, fun _ => False⟩
noncomputable def aliveC (T : Tr Ob) (b : Nat) : Bool := Option.rec false (fun ob => aliveO ob) (T.get b)
theorem aliveC_some {T : Tr Ob} {b : Nat} {ob : Ob} (h : T.get b = some ob) : aliveC T b = aliveO ob := by unfold aliveC; rw [h]
theorem aliveC_get {T : Tr Ob} {b : Nat} (h : aliveC T b = true) : ∃ ob, T.get b = some ob ∧ aliveO ob = true := by
  cases e : T.get b with
  | none => unfold aliveC at h; rw [e] at h; cases h
  | some ob => exact ⟨ob, rfl, by rw [aliveC_some e] at h; exact h⟩
/-- What all rooms share is in each room's telling, and stands there alike. -/
noncomputable def chkC (T TC : Tr Ob) : Bool := allT (fun b ob => Nat.ble RO b && Option.rec true (fun obC => !aliveO obC || mO (fun b => some b) (fun i => .v i) ob (some obC)) (TC.get b)) T 0 1
noncomputable def keepC (TC T : Tr Ob) (l : List (Nat × Nat)) : Bool := allT (fun b _ => sameO (sg T l b) b) TC 0 1
theorem keepC_ok {TC T : Tr Ob} {l : List (Nat × Nat)} (h : keepC TC T l = true) {b : Nat} (hb : TC.get b ≠ none) : sg T l b = some b := by
  cases e : TC.get b with
  | none => exact absurd e hb
  | some ob => exact sameO_eq (allT_get h e)
/-- A room's state stays when others are turned. -/
theorem frame {env : Nat → Int} {n : Nat} {G : Nat → Option Obj} {n2 : Old} {M Mc : Mp} {T TC : Tr Ob} {w w' : World} (r : Rel env (none0 n G) M T w) (rc : Rel env n2 Mc TC w') (hMc : mpS (sg TC []) M = Mc) (hc : chkC T TC = true)
    (hk : ∀ b pl ob, T.get b = some ob → M b = some pl → aliveO ob = true → aliveC TC b = false → w'.heap[pl.blk]? = w.heap[pl.blk]?) (hs : w.heap.size ≤ w'.heap.size) (ho : ∀ k, k < n → w'.heap[k]? = w.heap[k]?) : Rel env (none0 n G) M T w' := by
  have cb : ∀ b ob, T.get b = some ob → RO ≤ b ∧ ∀ obC, TC.get b = some obC → aliveO obC = true → mO (fun b => some b) (fun i => .v i) ob (some obC) = true := by
    intro b ob hb
    have := allT_get hc hb
    simp only [Bool.and_eq_true] at this
    refine ⟨Nat.le_of_ble_eq_true this.1, fun obC e hal => ?_⟩
    have h2 := this.2
    rw [e] at h2
    simpa [hal] using h2
  have hle : Mc.le M := by
    intro b pl e
    rw [← hMc] at e
    have e : (sg TC [] b).bind M = some pl := e
    unfold sg at e
    cases h : TC.get b with
    | none => rw [h] at e; cases e
    | some ob => rw [h] at e; exact e
  refine ⟨r.dom, fun b ob hb => ?_, r.inj, Nat.le_trans r.size hs, fun k hk' => (ho k hk').trans (r.old k hk'), fun _ h => h.elim, fun _ _ _ _ _ _ _ h => h⟩
  obtain ⟨pl, q1, q2, q3, q4, q5⟩ := r.row b ob hb
  obtain ⟨hro, hcc⟩ := cb b ob hb
  refine ⟨pl, q1, ?_, q3, q4, Nat.lt_of_lt_of_le q5 hs⟩
  cases h : TC.get b with
  | none => exact q2.mono M.le_refl fun hal => hk b pl ob hb q1 hal (by unfold aliveC; rw [h])
  | some obC =>
    cases hlc : aliveO obC with
    | false => exact q2.mono M.le_refl fun hal => hk b pl ob hb q1 hal (by rw [aliveC_some h]; exact hlc)
    | true =>
    obtain ⟨plC, c1, c2, _⟩ := rc.row b obC h
    have := hle _ _ c1
    rw [q1] at this
    cases this
    exact mO_ok (fun b => some b) (fun i => .v i) (hcc obC h hlc) (c2.mono hle fun _ => rfl)
theorem raise {env : Nat → Int} {n : Nat} {G : Nat → Option Obj} {M : Mp} {T : Tr Ob} {w : World} (r : Rel env (none0 n G) M T w) (K : Nat → Prop) (hK : ∀ k, K k → k < w.heap.size) (ha : ∀ b pl ob, T.get b = some ob → M b = some pl → aliveO ob = true → ¬ K pl.blk) :
    Rel env ⟨n, fun k => w.heap[k]?, K⟩ M T w :=
  ⟨r.dom, r.row, r.inj, r.size, fun _ _ => rfl, fun k h => ⟨hK k h, rfl⟩, fun b pl ob h1 h2 _ h3 => ha b pl ob h1 h2 h3⟩
theorem lower {env : Nat → Int} {n : Nat} {G G' : Nat → Option Obj} {K : Nat → Prop} {M : Mp} {T : Tr Ob} {w : World} (r : Rel env ⟨n, G', K⟩ M T w) (hG : ∀ k, k < n → G' k = G k) : Rel env (none0 n G) M T w :=
  ⟨r.dom, r.row, r.inj, r.size, fun k hk => (r.old k hk).trans (hG k hk), fun _ h => h.elim, fun _ _ _ _ _ _ _ h => h⟩
/-- What a pick answers of a call that has ended: which, and its number. -/
def EndR (r : Value) (w : World) (k : Nat) (s : Int) : Prop := ∃ b o c b2 o2 c2, 1 ≤ c ∧ 1 ≤ c2 ∧ r = .slice (some ⟨b, o, none⟩) 1 c ∧ w.cell? ⟨b, o, none⟩ = some (.int .u64 k) ∧ w.cell? ⟨b, o + 2, none⟩ = some (.slice (some ⟨b2, o2, none⟩) 1 c2) ∧ w.cell? ⟨b2, o2, none⟩ = some (.int .u64 s)
def nx (s : Nat) : Nat := min (s + 1) 2
def PkR (m y s : Nat) : Prop := ∀ (n2 : Old) (M : Mp) (w : World) (hp : Pl), M 64 = some hp → Rel e0 n2 M (TF m s y) w →
  Calls Tryz.prog 11 #[.pointer (some ⟨hp.blk, hp.off, none⟩), .int .i64 (y : Int), .int .i64 3] w fun e w' => ∃ r M', e = .returned r ∧ Below n2.n w w' ∧ Rel e0 n2 M' (TF m (nx s) y) w' ∧
    (∀ b pl, (TC m).get b ≠ none → M b = some pl → M' b = some pl) ∧ ((s = 1 ∧ EndR r w' y ((10 * y : Nat) : Int)) ∨ (s ≠ 1 ∧ r = .slice none 0 0))
def lowOf (y : Nat) : Nat := 66 + 45 * y
theorem pkN {m y s : Nat} {lf : Lf} {T : Tr Ob} (ht : TF m s y = T) (hr : CoversL (fun pc => evCall { cxb with pc := pc } 100000 11 [.p (some (64, 0)), .i .i64 (.c (.ofNat y)), .i .i64 (.c (.ofNat 3))] (.mk T 1000 .off)) (.leaf lf) [])
    (hv : lf.v = .sl none 0 0) (hs : lf.s = []) (hT : lf.T = TF m (nx s) y) (hk : keepC (TC m) lf.T lf.l = true) (h1 : s ≠ 1) : PkR m y s := by
  subst ht
  intro n2 M w hp hM R
  refine (tree_rel hT_b mixed_ok hF_b (by decide) hr trivial R (.cons _ _ _ _ (.p0 64 hp hM) (.cons _ _ _ _ (.i _ _) (.cons _ _ _ _ (.i _ _) .nil)))).mono ?_
  rintro e w' ⟨r, rfl, hb, M', q, R', v⟩
  rw [hs, ev0] at R' v
  rw [hv] at v
  rw [hT] at R'
  exact ⟨r, M', rfl, hb, R', fun b pl hb hM => q b pl (keepC_ok hk hb) hM, .inr ⟨h1, v.sln⟩⟩
theorem pkP {m y : Nat} {lf : Lf} {T : Tr Ob} (b c : Nat) (ps : List (Nat × Nat)) (ht : TF m 1 y = T) (hr : CoversL (fun pc => evCall { cxb with pc := pc } 100000 11 [.p (some (64, 0)), .i .i64 (.c (.ofNat y)), .i .i64 (.c (.ofNat 3))] (.mk T 1000 .off)) (.leaf lf) [])
    (hv : lf.v = .sl (some (b, 0)) 1 1) (hs : lf.s = []) (h0 : cellT lf.T b 0 = some (.i .u64 (.c (.ofNat y)))) (h2 : cellT lf.T b 2 = some (.sl (some (c, 0)) 1 1)) (h3 : cellT lf.T c 0 = some (.i .u64 (.c (.ofNat (10 * y)))))
    (hd : chkH (TF m 2 y) lf.T ps (sAt []) = true) (hk : keepC (TC m) lf.T lf.l = true) (hk2 : keepC (TC m) (TF m 2 y) ps = true) : PkR m y 1 := by
  subst ht
  intro n2 M w hp hM R
  refine (tree_rel hT_b mixed_ok hF_b (by decide) hr trivial R (.cons _ _ _ _ (.p0 64 hp hM) (.cons _ _ _ _ (.i _ _) (.cons _ _ _ _ (.i _ _) .nil)))).mono ?_
  rintro e w' ⟨r, rfl, hb, M', q, R', v⟩
  rw [hs, ev0] at R' v
  rw [hv] at v
  obtain ⟨pb, cb, hbb, hcb, _, _, rfl⟩ := v.slw0 (by decide)
  obtain ⟨x0, d0, u0⟩ := R'.cellK hbb 0 _ h0
  obtain ⟨x2, d2, u2⟩ := R'.cellK hbb 2 _ h2
  obtain ⟨pc, cc, hc, hcc, _, _, rfl⟩ := u2.slw0 (by decide)
  obtain ⟨x3, d3, u3⟩ := R'.cellK hc 0 _ h3
  have z0 := u0.intv
  have z3 := u3.intv
  subst z0 z3
  have R2 := R'.told hd
  rw [ev0] at R2
  refine ⟨_, _, rfl, hb, R2, fun a pl ha hM => ?_, .inl ⟨rfl, pb.blk, pb.off, cb, pc.blk, pc.off, cc, hcb, hcc, rfl, d0, d2, d3⟩⟩
  show (sg (TF m 2 y) ps a).bind M' = _
  rw [keepC_ok hk2 ha]
  exact q a pl (keepC_ok hk ha) hM
theorem kP1_0_0 : PkR 1 0 0 := pkN (lf := P1_0_0_0) rfl P1_0_0_r rfl rfl (by kernel_rfl) (by kernel_rfl) (by decide)
theorem kP1_0_1 : PkR 1 0 1 := pkP (lf := P1_0_1_0) 111 112 [] rfl P1_0_1_r rfl rfl (by kernel_rfl) (by kernel_rfl) (by kernel_rfl) (by kernel_rfl) (by kernel_rfl) (by kernel_rfl)
theorem kP1_0_2 : PkR 1 0 2 := pkN (lf := P1_0_2_0) rfl P1_0_2_r rfl rfl (by kernel_rfl) (by kernel_rfl) (by decide)
theorem kP2_0_0 : PkR 2 0 0 := pkN (lf := P2_0_0_0) rfl P2_0_0_r rfl rfl (by kernel_rfl) (by kernel_rfl) (by decide)
theorem kP2_0_1 : PkR 2 0 1 := pkP (lf := P2_0_1_0) 156 157 [] rfl P2_0_1_r rfl rfl (by kernel_rfl) (by kernel_rfl) (by kernel_rfl) (by kernel_rfl) (by kernel_rfl) (by kernel_rfl)
theorem kP2_0_2 : PkR 2 0 2 := pkN (lf := P2_0_2_0) rfl P2_0_2_r rfl rfl (by kernel_rfl) (by kernel_rfl) (by decide)
theorem kP2_1_0 : PkR 2 1 0 := pkN (lf := P2_1_0_0) rfl P2_1_0_r rfl rfl (by kernel_rfl) (by kernel_rfl) (by decide)
theorem kP2_1_1 : PkR 2 1 1 := pkP (lf := P2_1_1_0) 156 157 [] rfl P2_1_1_r rfl rfl (by kernel_rfl) (by kernel_rfl) (by kernel_rfl) (by kernel_rfl) (by kernel_rfl) (by kernel_rfl)
theorem kP2_1_2 : PkR 2 1 2 := pkN (lf := P2_1_2_0) rfl P2_1_2_r rfl rfl (by kernel_rfl) (by kernel_rfl) (by decide)
theorem kP3_0_0 : PkR 3 0 0 := pkN (lf := P3_0_0_0) rfl P3_0_0_r rfl rfl (by kernel_rfl) (by kernel_rfl) (by decide)
theorem kP3_0_1 : PkR 3 0 1 := pkP (lf := P3_0_1_0) 201 202 [] rfl P3_0_1_r rfl rfl (by kernel_rfl) (by kernel_rfl) (by kernel_rfl) (by kernel_rfl) (by kernel_rfl) (by kernel_rfl)
theorem kP3_0_2 : PkR 3 0 2 := pkN (lf := P3_0_2_0) rfl P3_0_2_r rfl rfl (by kernel_rfl) (by kernel_rfl) (by decide)
theorem kP3_1_0 : PkR 3 1 0 := pkN (lf := P3_1_0_0) rfl P3_1_0_r rfl rfl (by kernel_rfl) (by kernel_rfl) (by decide)
theorem kP3_1_1 : PkR 3 1 1 := pkP (lf := P3_1_1_0) 201 202 [] rfl P3_1_1_r rfl rfl (by kernel_rfl) (by kernel_rfl) (by kernel_rfl) (by kernel_rfl) (by kernel_rfl) (by kernel_rfl)
theorem kP3_1_2 : PkR 3 1 2 := pkN (lf := P3_1_2_0) rfl P3_1_2_r rfl rfl (by kernel_rfl) (by kernel_rfl) (by decide)
theorem kP3_2_0 : PkR 3 2 0 := pkN (lf := P3_2_0_0) rfl P3_2_0_r rfl rfl (by kernel_rfl) (by kernel_rfl) (by decide)
theorem kP3_2_1 : PkR 3 2 1 := pkP (lf := P3_2_1_0) 201 202 [] rfl P3_2_1_r rfl rfl (by kernel_rfl) (by kernel_rfl) (by kernel_rfl) (by kernel_rfl) (by kernel_rfl) (by kernel_rfl)
theorem kP3_2_2 : PkR 3 2 2 := pkN (lf := P3_2_2_0) rfl P3_2_2_r rfl rfl (by kernel_rfl) (by kernel_rfl) (by decide)
theorem kP4_0_0 : PkR 4 0 0 := pkN (lf := P4_0_0_0) rfl P4_0_0_r rfl rfl (by kernel_rfl) (by kernel_rfl) (by decide)
theorem kP4_0_1 : PkR 4 0 1 := pkP (lf := P4_0_1_0) 246 247 [] rfl P4_0_1_r rfl rfl (by kernel_rfl) (by kernel_rfl) (by kernel_rfl) (by kernel_rfl) (by kernel_rfl) (by kernel_rfl)
theorem kP4_0_2 : PkR 4 0 2 := pkN (lf := P4_0_2_0) rfl P4_0_2_r rfl rfl (by kernel_rfl) (by kernel_rfl) (by decide)
theorem kP4_1_0 : PkR 4 1 0 := pkN (lf := P4_1_0_0) rfl P4_1_0_r rfl rfl (by kernel_rfl) (by kernel_rfl) (by decide)
theorem kP4_1_1 : PkR 4 1 1 := pkP (lf := P4_1_1_0) 246 247 [] rfl P4_1_1_r rfl rfl (by kernel_rfl) (by kernel_rfl) (by kernel_rfl) (by kernel_rfl) (by kernel_rfl) (by kernel_rfl)
theorem kP4_1_2 : PkR 4 1 2 := pkN (lf := P4_1_2_0) rfl P4_1_2_r rfl rfl (by kernel_rfl) (by kernel_rfl) (by decide)
theorem kP4_2_0 : PkR 4 2 0 := pkN (lf := P4_2_0_0) rfl P4_2_0_r rfl rfl (by kernel_rfl) (by kernel_rfl) (by decide)
theorem kP4_2_1 : PkR 4 2 1 := pkP (lf := P4_2_1_0) 246 247 [] rfl P4_2_1_r rfl rfl (by kernel_rfl) (by kernel_rfl) (by kernel_rfl) (by kernel_rfl) (by kernel_rfl) (by kernel_rfl)
theorem kP4_2_2 : PkR 4 2 2 := pkN (lf := P4_2_2_0) rfl P4_2_2_r rfl rfl (by kernel_rfl) (by kernel_rfl) (by decide)
theorem kP4_3_0 : PkR 4 3 0 := pkN (lf := P4_3_0_0) rfl P4_3_0_r rfl rfl (by kernel_rfl) (by kernel_rfl) (by decide)
theorem kP4_3_1 : PkR 4 3 1 := pkP (lf := P4_3_1_0) 246 247 [] rfl P4_3_1_r rfl rfl (by kernel_rfl) (by kernel_rfl) (by kernel_rfl) (by kernel_rfl) (by kernel_rfl) (by kernel_rfl)
theorem kP4_3_2 : PkR 4 3 2 := pkN (lf := P4_3_2_0) rfl P4_3_2_r rfl rfl (by kernel_rfl) (by kernel_rfl) (by decide)
theorem kP5_0_0 : PkR 5 0 0 := pkN (lf := P5_0_0_0) rfl P5_0_0_r rfl rfl (by kernel_rfl) (by kernel_rfl) (by decide)
theorem kP5_0_1 : PkR 5 0 1 := pkP (lf := P5_0_1_0) 291 292 [] rfl P5_0_1_r rfl rfl (by kernel_rfl) (by kernel_rfl) (by kernel_rfl) (by kernel_rfl) (by kernel_rfl) (by kernel_rfl)
theorem kP5_0_2 : PkR 5 0 2 := pkN (lf := P5_0_2_0) rfl P5_0_2_r rfl rfl (by kernel_rfl) (by kernel_rfl) (by decide)
theorem kP5_1_0 : PkR 5 1 0 := pkN (lf := P5_1_0_0) rfl P5_1_0_r rfl rfl (by kernel_rfl) (by kernel_rfl) (by decide)
theorem kP5_1_1 : PkR 5 1 1 := pkP (lf := P5_1_1_0) 291 292 [] rfl P5_1_1_r rfl rfl (by kernel_rfl) (by kernel_rfl) (by kernel_rfl) (by kernel_rfl) (by kernel_rfl) (by kernel_rfl)
theorem kP5_1_2 : PkR 5 1 2 := pkN (lf := P5_1_2_0) rfl P5_1_2_r rfl rfl (by kernel_rfl) (by kernel_rfl) (by decide)
theorem kP5_2_0 : PkR 5 2 0 := pkN (lf := P5_2_0_0) rfl P5_2_0_r rfl rfl (by kernel_rfl) (by kernel_rfl) (by decide)
theorem kP5_2_1 : PkR 5 2 1 := pkP (lf := P5_2_1_0) 291 292 [] rfl P5_2_1_r rfl rfl (by kernel_rfl) (by kernel_rfl) (by kernel_rfl) (by kernel_rfl) (by kernel_rfl) (by kernel_rfl)
theorem kP5_2_2 : PkR 5 2 2 := pkN (lf := P5_2_2_0) rfl P5_2_2_r rfl rfl (by kernel_rfl) (by kernel_rfl) (by decide)
theorem kP5_3_0 : PkR 5 3 0 := pkN (lf := P5_3_0_0) rfl P5_3_0_r rfl rfl (by kernel_rfl) (by kernel_rfl) (by decide)
theorem kP5_3_1 : PkR 5 3 1 := pkP (lf := P5_3_1_0) 291 292 [] rfl P5_3_1_r rfl rfl (by kernel_rfl) (by kernel_rfl) (by kernel_rfl) (by kernel_rfl) (by kernel_rfl) (by kernel_rfl)
theorem kP5_3_2 : PkR 5 3 2 := pkN (lf := P5_3_2_0) rfl P5_3_2_r rfl rfl (by kernel_rfl) (by kernel_rfl) (by decide)
theorem kP5_4_0 : PkR 5 4 0 := pkN (lf := P5_4_0_0) rfl P5_4_0_r rfl rfl (by kernel_rfl) (by kernel_rfl) (by decide)
theorem kP5_4_1 : PkR 5 4 1 := pkP (lf := P5_4_1_0) 291 292 [] rfl P5_4_1_r rfl rfl (by kernel_rfl) (by kernel_rfl) (by kernel_rfl) (by kernel_rfl) (by kernel_rfl) (by kernel_rfl)
theorem kP5_4_2 : PkR 5 4 2 := pkN (lf := P5_4_2_0) rfl P5_4_2_r rfl rfl (by kernel_rfl) (by kernel_rfl) (by decide)
theorem kP6_0_0 : PkR 6 0 0 := pkN (lf := P6_0_0_0) rfl P6_0_0_r rfl rfl (by kernel_rfl) (by kernel_rfl) (by decide)
theorem kP6_0_1 : PkR 6 0 1 := pkP (lf := P6_0_1_0) 336 337 [] rfl P6_0_1_r rfl rfl (by kernel_rfl) (by kernel_rfl) (by kernel_rfl) (by kernel_rfl) (by kernel_rfl) (by kernel_rfl)
theorem kP6_0_2 : PkR 6 0 2 := pkN (lf := P6_0_2_0) rfl P6_0_2_r rfl rfl (by kernel_rfl) (by kernel_rfl) (by decide)
theorem kP6_1_0 : PkR 6 1 0 := pkN (lf := P6_1_0_0) rfl P6_1_0_r rfl rfl (by kernel_rfl) (by kernel_rfl) (by decide)
theorem kP6_1_1 : PkR 6 1 1 := pkP (lf := P6_1_1_0) 336 337 [] rfl P6_1_1_r rfl rfl (by kernel_rfl) (by kernel_rfl) (by kernel_rfl) (by kernel_rfl) (by kernel_rfl) (by kernel_rfl)
theorem kP6_1_2 : PkR 6 1 2 := pkN (lf := P6_1_2_0) rfl P6_1_2_r rfl rfl (by kernel_rfl) (by kernel_rfl) (by decide)
theorem kP6_2_0 : PkR 6 2 0 := pkN (lf := P6_2_0_0) rfl P6_2_0_r rfl rfl (by kernel_rfl) (by kernel_rfl) (by decide)
theorem kP6_2_1 : PkR 6 2 1 := pkP (lf := P6_2_1_0) 336 337 [] rfl P6_2_1_r rfl rfl (by kernel_rfl) (by kernel_rfl) (by kernel_rfl) (by kernel_rfl) (by kernel_rfl) (by kernel_rfl)
theorem kP6_2_2 : PkR 6 2 2 := pkN (lf := P6_2_2_0) rfl P6_2_2_r rfl rfl (by kernel_rfl) (by kernel_rfl) (by decide)
theorem kP6_3_0 : PkR 6 3 0 := pkN (lf := P6_3_0_0) rfl P6_3_0_r rfl rfl (by kernel_rfl) (by kernel_rfl) (by decide)
theorem kP6_3_1 : PkR 6 3 1 := pkP (lf := P6_3_1_0) 336 337 [] rfl P6_3_1_r rfl rfl (by kernel_rfl) (by kernel_rfl) (by kernel_rfl) (by kernel_rfl) (by kernel_rfl) (by kernel_rfl)
theorem kP6_3_2 : PkR 6 3 2 := pkN (lf := P6_3_2_0) rfl P6_3_2_r rfl rfl (by kernel_rfl) (by kernel_rfl) (by decide)
theorem kP6_4_0 : PkR 6 4 0 := pkN (lf := P6_4_0_0) rfl P6_4_0_r rfl rfl (by kernel_rfl) (by kernel_rfl) (by decide)
theorem kP6_4_1 : PkR 6 4 1 := pkP (lf := P6_4_1_0) 336 337 [] rfl P6_4_1_r rfl rfl (by kernel_rfl) (by kernel_rfl) (by kernel_rfl) (by kernel_rfl) (by kernel_rfl) (by kernel_rfl)
theorem kP6_4_2 : PkR 6 4 2 := pkN (lf := P6_4_2_0) rfl P6_4_2_r rfl rfl (by kernel_rfl) (by kernel_rfl) (by decide)
theorem kP6_5_0 : PkR 6 5 0 := pkN (lf := P6_5_0_0) rfl P6_5_0_r rfl rfl (by kernel_rfl) (by kernel_rfl) (by decide)
theorem kP6_5_1 : PkR 6 5 1 := pkP (lf := P6_5_1_0) 336 337 [] rfl P6_5_1_r rfl rfl (by kernel_rfl) (by kernel_rfl) (by kernel_rfl) (by kernel_rfl) (by kernel_rfl) (by kernel_rfl)
theorem kP6_5_2 : PkR 6 5 2 := pkN (lf := P6_5_2_0) rfl P6_5_2_r rfl rfl (by kernel_rfl) (by kernel_rfl) (by decide)
theorem kP7_0_0 : PkR 7 0 0 := pkN (lf := P7_0_0_0) rfl P7_0_0_r rfl rfl (by kernel_rfl) (by kernel_rfl) (by decide)
theorem kP7_0_1 : PkR 7 0 1 := pkP (lf := P7_0_1_0) 381 382 [] rfl P7_0_1_r rfl rfl (by kernel_rfl) (by kernel_rfl) (by kernel_rfl) (by kernel_rfl) (by kernel_rfl) (by kernel_rfl)
theorem kP7_0_2 : PkR 7 0 2 := pkN (lf := P7_0_2_0) rfl P7_0_2_r rfl rfl (by kernel_rfl) (by kernel_rfl) (by decide)
theorem kP7_1_0 : PkR 7 1 0 := pkN (lf := P7_1_0_0) rfl P7_1_0_r rfl rfl (by kernel_rfl) (by kernel_rfl) (by decide)
theorem kP7_1_1 : PkR 7 1 1 := pkP (lf := P7_1_1_0) 381 382 [] rfl P7_1_1_r rfl rfl (by kernel_rfl) (by kernel_rfl) (by kernel_rfl) (by kernel_rfl) (by kernel_rfl) (by kernel_rfl)
theorem kP7_1_2 : PkR 7 1 2 := pkN (lf := P7_1_2_0) rfl P7_1_2_r rfl rfl (by kernel_rfl) (by kernel_rfl) (by decide)
theorem kP7_2_0 : PkR 7 2 0 := pkN (lf := P7_2_0_0) rfl P7_2_0_r rfl rfl (by kernel_rfl) (by kernel_rfl) (by decide)
theorem kP7_2_1 : PkR 7 2 1 := pkP (lf := P7_2_1_0) 381 382 [] rfl P7_2_1_r rfl rfl (by kernel_rfl) (by kernel_rfl) (by kernel_rfl) (by kernel_rfl) (by kernel_rfl) (by kernel_rfl)
theorem kP7_2_2 : PkR 7 2 2 := pkN (lf := P7_2_2_0) rfl P7_2_2_r rfl rfl (by kernel_rfl) (by kernel_rfl) (by decide)
theorem kP7_3_0 : PkR 7 3 0 := pkN (lf := P7_3_0_0) rfl P7_3_0_r rfl rfl (by kernel_rfl) (by kernel_rfl) (by decide)
theorem kP7_3_1 : PkR 7 3 1 := pkP (lf := P7_3_1_0) 381 382 [] rfl P7_3_1_r rfl rfl (by kernel_rfl) (by kernel_rfl) (by kernel_rfl) (by kernel_rfl) (by kernel_rfl) (by kernel_rfl)
theorem kP7_3_2 : PkR 7 3 2 := pkN (lf := P7_3_2_0) rfl P7_3_2_r rfl rfl (by kernel_rfl) (by kernel_rfl) (by decide)
theorem kP7_4_0 : PkR 7 4 0 := pkN (lf := P7_4_0_0) rfl P7_4_0_r rfl rfl (by kernel_rfl) (by kernel_rfl) (by decide)
theorem kP7_4_1 : PkR 7 4 1 := pkP (lf := P7_4_1_0) 381 382 [] rfl P7_4_1_r rfl rfl (by kernel_rfl) (by kernel_rfl) (by kernel_rfl) (by kernel_rfl) (by kernel_rfl) (by kernel_rfl)
theorem kP7_4_2 : PkR 7 4 2 := pkN (lf := P7_4_2_0) rfl P7_4_2_r rfl rfl (by kernel_rfl) (by kernel_rfl) (by decide)
theorem kP7_5_0 : PkR 7 5 0 := pkN (lf := P7_5_0_0) rfl P7_5_0_r rfl rfl (by kernel_rfl) (by kernel_rfl) (by decide)
theorem kP7_5_1 : PkR 7 5 1 := pkP (lf := P7_5_1_0) 381 382 [] rfl P7_5_1_r rfl rfl (by kernel_rfl) (by kernel_rfl) (by kernel_rfl) (by kernel_rfl) (by kernel_rfl) (by kernel_rfl)
theorem kP7_5_2 : PkR 7 5 2 := pkN (lf := P7_5_2_0) rfl P7_5_2_r rfl rfl (by kernel_rfl) (by kernel_rfl) (by decide)
theorem kP7_6_0 : PkR 7 6 0 := pkN (lf := P7_6_0_0) rfl P7_6_0_r rfl rfl (by kernel_rfl) (by kernel_rfl) (by decide)
theorem kP7_6_1 : PkR 7 6 1 := pkP (lf := P7_6_1_0) 381 382 [] rfl P7_6_1_r rfl rfl (by kernel_rfl) (by kernel_rfl) (by kernel_rfl) (by kernel_rfl) (by kernel_rfl) (by kernel_rfl)
theorem kP7_6_2 : PkR 7 6 2 := pkN (lf := P7_6_2_0) rfl P7_6_2_r rfl rfl (by kernel_rfl) (by kernel_rfl) (by decide)
theorem kP8_0_0 : PkR 8 0 0 := pkN (lf := P8_0_0_0) rfl P8_0_0_r rfl rfl (by kernel_rfl) (by kernel_rfl) (by decide)
theorem kP8_0_1 : PkR 8 0 1 := pkP (lf := P8_0_1_0) 426 427 [] rfl P8_0_1_r rfl rfl (by kernel_rfl) (by kernel_rfl) (by kernel_rfl) (by kernel_rfl) (by kernel_rfl) (by kernel_rfl)
theorem kP8_0_2 : PkR 8 0 2 := pkN (lf := P8_0_2_0) rfl P8_0_2_r rfl rfl (by kernel_rfl) (by kernel_rfl) (by decide)
theorem kP8_1_0 : PkR 8 1 0 := pkN (lf := P8_1_0_0) rfl P8_1_0_r rfl rfl (by kernel_rfl) (by kernel_rfl) (by decide)
theorem kP8_1_1 : PkR 8 1 1 := pkP (lf := P8_1_1_0) 426 427 [] rfl P8_1_1_r rfl rfl (by kernel_rfl) (by kernel_rfl) (by kernel_rfl) (by kernel_rfl) (by kernel_rfl) (by kernel_rfl)
theorem kP8_1_2 : PkR 8 1 2 := pkN (lf := P8_1_2_0) rfl P8_1_2_r rfl rfl (by kernel_rfl) (by kernel_rfl) (by decide)
theorem kP8_2_0 : PkR 8 2 0 := pkN (lf := P8_2_0_0) rfl P8_2_0_r rfl rfl (by kernel_rfl) (by kernel_rfl) (by decide)
theorem kP8_2_1 : PkR 8 2 1 := pkP (lf := P8_2_1_0) 426 427 [] rfl P8_2_1_r rfl rfl (by kernel_rfl) (by kernel_rfl) (by kernel_rfl) (by kernel_rfl) (by kernel_rfl) (by kernel_rfl)
theorem kP8_2_2 : PkR 8 2 2 := pkN (lf := P8_2_2_0) rfl P8_2_2_r rfl rfl (by kernel_rfl) (by kernel_rfl) (by decide)
theorem kP8_3_0 : PkR 8 3 0 := pkN (lf := P8_3_0_0) rfl P8_3_0_r rfl rfl (by kernel_rfl) (by kernel_rfl) (by decide)
theorem kP8_3_1 : PkR 8 3 1 := pkP (lf := P8_3_1_0) 426 427 [] rfl P8_3_1_r rfl rfl (by kernel_rfl) (by kernel_rfl) (by kernel_rfl) (by kernel_rfl) (by kernel_rfl) (by kernel_rfl)
theorem kP8_3_2 : PkR 8 3 2 := pkN (lf := P8_3_2_0) rfl P8_3_2_r rfl rfl (by kernel_rfl) (by kernel_rfl) (by decide)
theorem kP8_4_0 : PkR 8 4 0 := pkN (lf := P8_4_0_0) rfl P8_4_0_r rfl rfl (by kernel_rfl) (by kernel_rfl) (by decide)
theorem kP8_4_1 : PkR 8 4 1 := pkP (lf := P8_4_1_0) 426 427 [] rfl P8_4_1_r rfl rfl (by kernel_rfl) (by kernel_rfl) (by kernel_rfl) (by kernel_rfl) (by kernel_rfl) (by kernel_rfl)
theorem kP8_4_2 : PkR 8 4 2 := pkN (lf := P8_4_2_0) rfl P8_4_2_r rfl rfl (by kernel_rfl) (by kernel_rfl) (by decide)
theorem kP8_5_0 : PkR 8 5 0 := pkN (lf := P8_5_0_0) rfl P8_5_0_r rfl rfl (by kernel_rfl) (by kernel_rfl) (by decide)
theorem kP8_5_1 : PkR 8 5 1 := pkP (lf := P8_5_1_0) 426 427 [] rfl P8_5_1_r rfl rfl (by kernel_rfl) (by kernel_rfl) (by kernel_rfl) (by kernel_rfl) (by kernel_rfl) (by kernel_rfl)
theorem kP8_5_2 : PkR 8 5 2 := pkN (lf := P8_5_2_0) rfl P8_5_2_r rfl rfl (by kernel_rfl) (by kernel_rfl) (by decide)
theorem kP8_6_0 : PkR 8 6 0 := pkN (lf := P8_6_0_0) rfl P8_6_0_r rfl rfl (by kernel_rfl) (by kernel_rfl) (by decide)
theorem kP8_6_1 : PkR 8 6 1 := pkP (lf := P8_6_1_0) 426 427 [] rfl P8_6_1_r rfl rfl (by kernel_rfl) (by kernel_rfl) (by kernel_rfl) (by kernel_rfl) (by kernel_rfl) (by kernel_rfl)
theorem kP8_6_2 : PkR 8 6 2 := pkN (lf := P8_6_2_0) rfl P8_6_2_r rfl rfl (by kernel_rfl) (by kernel_rfl) (by decide)
theorem kP8_7_0 : PkR 8 7 0 := pkN (lf := P8_7_0_0) rfl P8_7_0_r rfl rfl (by kernel_rfl) (by kernel_rfl) (by decide)
theorem kP8_7_1 : PkR 8 7 1 := pkP (lf := P8_7_1_0) 426 427 [] rfl P8_7_1_r rfl rfl (by kernel_rfl) (by kernel_rfl) (by kernel_rfl) (by kernel_rfl) (by kernel_rfl) (by kernel_rfl)
theorem kP8_7_2 : PkR 8 7 2 := pkN (lf := P8_7_2_0) rfl P8_7_2_r rfl rfl (by kernel_rfl) (by kernel_rfl) (by decide)
theorem c1_0_0 : (chkC (TF 1 0 0) (TC 1), chkH (TC 1) (TF 1 0 0) [] (sAt [])) = (true, true) := by kernel_rfl
theorem c1_0_1 : (chkC (TF 1 1 0) (TC 1), chkH (TC 1) (TF 1 1 0) [] (sAt [])) = (true, true) := by kernel_rfl
theorem c1_0_2 : (chkC (TF 1 2 0) (TC 1), chkH (TC 1) (TF 1 2 0) [] (sAt [])) = (true, true) := by kernel_rfl
theorem c2_0_0 : (chkC (TF 2 0 0) (TC 2), chkH (TC 2) (TF 2 0 0) [] (sAt [])) = (true, true) := by kernel_rfl
theorem c2_0_1 : (chkC (TF 2 1 0) (TC 2), chkH (TC 2) (TF 2 1 0) [] (sAt [])) = (true, true) := by kernel_rfl
theorem c2_0_2 : (chkC (TF 2 2 0) (TC 2), chkH (TC 2) (TF 2 2 0) [] (sAt [])) = (true, true) := by kernel_rfl
theorem c2_1_0 : (chkC (TF 2 0 1) (TC 2), chkH (TC 2) (TF 2 0 1) [] (sAt [])) = (true, true) := by kernel_rfl
theorem c2_1_1 : (chkC (TF 2 1 1) (TC 2), chkH (TC 2) (TF 2 1 1) [] (sAt [])) = (true, true) := by kernel_rfl
theorem c2_1_2 : (chkC (TF 2 2 1) (TC 2), chkH (TC 2) (TF 2 2 1) [] (sAt [])) = (true, true) := by kernel_rfl
theorem c3_0_0 : (chkC (TF 3 0 0) (TC 3), chkH (TC 3) (TF 3 0 0) [] (sAt [])) = (true, true) := by kernel_rfl
theorem c3_0_1 : (chkC (TF 3 1 0) (TC 3), chkH (TC 3) (TF 3 1 0) [] (sAt [])) = (true, true) := by kernel_rfl
theorem c3_0_2 : (chkC (TF 3 2 0) (TC 3), chkH (TC 3) (TF 3 2 0) [] (sAt [])) = (true, true) := by kernel_rfl
theorem c3_1_0 : (chkC (TF 3 0 1) (TC 3), chkH (TC 3) (TF 3 0 1) [] (sAt [])) = (true, true) := by kernel_rfl
theorem c3_1_1 : (chkC (TF 3 1 1) (TC 3), chkH (TC 3) (TF 3 1 1) [] (sAt [])) = (true, true) := by kernel_rfl
theorem c3_1_2 : (chkC (TF 3 2 1) (TC 3), chkH (TC 3) (TF 3 2 1) [] (sAt [])) = (true, true) := by kernel_rfl
theorem c3_2_0 : (chkC (TF 3 0 2) (TC 3), chkH (TC 3) (TF 3 0 2) [] (sAt [])) = (true, true) := by kernel_rfl
theorem c3_2_1 : (chkC (TF 3 1 2) (TC 3), chkH (TC 3) (TF 3 1 2) [] (sAt [])) = (true, true) := by kernel_rfl
theorem c3_2_2 : (chkC (TF 3 2 2) (TC 3), chkH (TC 3) (TF 3 2 2) [] (sAt [])) = (true, true) := by kernel_rfl
theorem c4_0_0 : (chkC (TF 4 0 0) (TC 4), chkH (TC 4) (TF 4 0 0) [] (sAt [])) = (true, true) := by kernel_rfl
theorem c4_0_1 : (chkC (TF 4 1 0) (TC 4), chkH (TC 4) (TF 4 1 0) [] (sAt [])) = (true, true) := by kernel_rfl
theorem c4_0_2 : (chkC (TF 4 2 0) (TC 4), chkH (TC 4) (TF 4 2 0) [] (sAt [])) = (true, true) := by kernel_rfl
theorem c4_1_0 : (chkC (TF 4 0 1) (TC 4), chkH (TC 4) (TF 4 0 1) [] (sAt [])) = (true, true) := by kernel_rfl
theorem c4_1_1 : (chkC (TF 4 1 1) (TC 4), chkH (TC 4) (TF 4 1 1) [] (sAt [])) = (true, true) := by kernel_rfl
theorem c4_1_2 : (chkC (TF 4 2 1) (TC 4), chkH (TC 4) (TF 4 2 1) [] (sAt [])) = (true, true) := by kernel_rfl
theorem c4_2_0 : (chkC (TF 4 0 2) (TC 4), chkH (TC 4) (TF 4 0 2) [] (sAt [])) = (true, true) := by kernel_rfl
theorem c4_2_1 : (chkC (TF 4 1 2) (TC 4), chkH (TC 4) (TF 4 1 2) [] (sAt [])) = (true, true) := by kernel_rfl
theorem c4_2_2 : (chkC (TF 4 2 2) (TC 4), chkH (TC 4) (TF 4 2 2) [] (sAt [])) = (true, true) := by kernel_rfl
theorem c4_3_0 : (chkC (TF 4 0 3) (TC 4), chkH (TC 4) (TF 4 0 3) [] (sAt [])) = (true, true) := by kernel_rfl
theorem c4_3_1 : (chkC (TF 4 1 3) (TC 4), chkH (TC 4) (TF 4 1 3) [] (sAt [])) = (true, true) := by kernel_rfl
theorem c4_3_2 : (chkC (TF 4 2 3) (TC 4), chkH (TC 4) (TF 4 2 3) [] (sAt [])) = (true, true) := by kernel_rfl
theorem c5_0_0 : (chkC (TF 5 0 0) (TC 5), chkH (TC 5) (TF 5 0 0) [] (sAt [])) = (true, true) := by kernel_rfl
theorem c5_0_1 : (chkC (TF 5 1 0) (TC 5), chkH (TC 5) (TF 5 1 0) [] (sAt [])) = (true, true) := by kernel_rfl
theorem c5_0_2 : (chkC (TF 5 2 0) (TC 5), chkH (TC 5) (TF 5 2 0) [] (sAt [])) = (true, true) := by kernel_rfl
theorem c5_1_0 : (chkC (TF 5 0 1) (TC 5), chkH (TC 5) (TF 5 0 1) [] (sAt [])) = (true, true) := by kernel_rfl
theorem c5_1_1 : (chkC (TF 5 1 1) (TC 5), chkH (TC 5) (TF 5 1 1) [] (sAt [])) = (true, true) := by kernel_rfl
theorem c5_1_2 : (chkC (TF 5 2 1) (TC 5), chkH (TC 5) (TF 5 2 1) [] (sAt [])) = (true, true) := by kernel_rfl
theorem c5_2_0 : (chkC (TF 5 0 2) (TC 5), chkH (TC 5) (TF 5 0 2) [] (sAt [])) = (true, true) := by kernel_rfl
theorem c5_2_1 : (chkC (TF 5 1 2) (TC 5), chkH (TC 5) (TF 5 1 2) [] (sAt [])) = (true, true) := by kernel_rfl
theorem c5_2_2 : (chkC (TF 5 2 2) (TC 5), chkH (TC 5) (TF 5 2 2) [] (sAt [])) = (true, true) := by kernel_rfl
theorem c5_3_0 : (chkC (TF 5 0 3) (TC 5), chkH (TC 5) (TF 5 0 3) [] (sAt [])) = (true, true) := by kernel_rfl
theorem c5_3_1 : (chkC (TF 5 1 3) (TC 5), chkH (TC 5) (TF 5 1 3) [] (sAt [])) = (true, true) := by kernel_rfl
theorem c5_3_2 : (chkC (TF 5 2 3) (TC 5), chkH (TC 5) (TF 5 2 3) [] (sAt [])) = (true, true) := by kernel_rfl
theorem c5_4_0 : (chkC (TF 5 0 4) (TC 5), chkH (TC 5) (TF 5 0 4) [] (sAt [])) = (true, true) := by kernel_rfl
theorem c5_4_1 : (chkC (TF 5 1 4) (TC 5), chkH (TC 5) (TF 5 1 4) [] (sAt [])) = (true, true) := by kernel_rfl
theorem c5_4_2 : (chkC (TF 5 2 4) (TC 5), chkH (TC 5) (TF 5 2 4) [] (sAt [])) = (true, true) := by kernel_rfl
theorem c6_0_0 : (chkC (TF 6 0 0) (TC 6), chkH (TC 6) (TF 6 0 0) [] (sAt [])) = (true, true) := by kernel_rfl
theorem c6_0_1 : (chkC (TF 6 1 0) (TC 6), chkH (TC 6) (TF 6 1 0) [] (sAt [])) = (true, true) := by kernel_rfl
theorem c6_0_2 : (chkC (TF 6 2 0) (TC 6), chkH (TC 6) (TF 6 2 0) [] (sAt [])) = (true, true) := by kernel_rfl
theorem c6_1_0 : (chkC (TF 6 0 1) (TC 6), chkH (TC 6) (TF 6 0 1) [] (sAt [])) = (true, true) := by kernel_rfl
theorem c6_1_1 : (chkC (TF 6 1 1) (TC 6), chkH (TC 6) (TF 6 1 1) [] (sAt [])) = (true, true) := by kernel_rfl
theorem c6_1_2 : (chkC (TF 6 2 1) (TC 6), chkH (TC 6) (TF 6 2 1) [] (sAt [])) = (true, true) := by kernel_rfl
theorem c6_2_0 : (chkC (TF 6 0 2) (TC 6), chkH (TC 6) (TF 6 0 2) [] (sAt [])) = (true, true) := by kernel_rfl
theorem c6_2_1 : (chkC (TF 6 1 2) (TC 6), chkH (TC 6) (TF 6 1 2) [] (sAt [])) = (true, true) := by kernel_rfl
theorem c6_2_2 : (chkC (TF 6 2 2) (TC 6), chkH (TC 6) (TF 6 2 2) [] (sAt [])) = (true, true) := by kernel_rfl
theorem c6_3_0 : (chkC (TF 6 0 3) (TC 6), chkH (TC 6) (TF 6 0 3) [] (sAt [])) = (true, true) := by kernel_rfl
theorem c6_3_1 : (chkC (TF 6 1 3) (TC 6), chkH (TC 6) (TF 6 1 3) [] (sAt [])) = (true, true) := by kernel_rfl
theorem c6_3_2 : (chkC (TF 6 2 3) (TC 6), chkH (TC 6) (TF 6 2 3) [] (sAt [])) = (true, true) := by kernel_rfl
theorem c6_4_0 : (chkC (TF 6 0 4) (TC 6), chkH (TC 6) (TF 6 0 4) [] (sAt [])) = (true, true) := by kernel_rfl
theorem c6_4_1 : (chkC (TF 6 1 4) (TC 6), chkH (TC 6) (TF 6 1 4) [] (sAt [])) = (true, true) := by kernel_rfl
theorem c6_4_2 : (chkC (TF 6 2 4) (TC 6), chkH (TC 6) (TF 6 2 4) [] (sAt [])) = (true, true) := by kernel_rfl
theorem c6_5_0 : (chkC (TF 6 0 5) (TC 6), chkH (TC 6) (TF 6 0 5) [] (sAt [])) = (true, true) := by kernel_rfl
theorem c6_5_1 : (chkC (TF 6 1 5) (TC 6), chkH (TC 6) (TF 6 1 5) [] (sAt [])) = (true, true) := by kernel_rfl
theorem c6_5_2 : (chkC (TF 6 2 5) (TC 6), chkH (TC 6) (TF 6 2 5) [] (sAt [])) = (true, true) := by kernel_rfl
theorem c7_0_0 : (chkC (TF 7 0 0) (TC 7), chkH (TC 7) (TF 7 0 0) [] (sAt [])) = (true, true) := by kernel_rfl
theorem c7_0_1 : (chkC (TF 7 1 0) (TC 7), chkH (TC 7) (TF 7 1 0) [] (sAt [])) = (true, true) := by kernel_rfl
theorem c7_0_2 : (chkC (TF 7 2 0) (TC 7), chkH (TC 7) (TF 7 2 0) [] (sAt [])) = (true, true) := by kernel_rfl
theorem c7_1_0 : (chkC (TF 7 0 1) (TC 7), chkH (TC 7) (TF 7 0 1) [] (sAt [])) = (true, true) := by kernel_rfl
theorem c7_1_1 : (chkC (TF 7 1 1) (TC 7), chkH (TC 7) (TF 7 1 1) [] (sAt [])) = (true, true) := by kernel_rfl
theorem c7_1_2 : (chkC (TF 7 2 1) (TC 7), chkH (TC 7) (TF 7 2 1) [] (sAt [])) = (true, true) := by kernel_rfl
theorem c7_2_0 : (chkC (TF 7 0 2) (TC 7), chkH (TC 7) (TF 7 0 2) [] (sAt [])) = (true, true) := by kernel_rfl
theorem c7_2_1 : (chkC (TF 7 1 2) (TC 7), chkH (TC 7) (TF 7 1 2) [] (sAt [])) = (true, true) := by kernel_rfl
theorem c7_2_2 : (chkC (TF 7 2 2) (TC 7), chkH (TC 7) (TF 7 2 2) [] (sAt [])) = (true, true) := by kernel_rfl
theorem c7_3_0 : (chkC (TF 7 0 3) (TC 7), chkH (TC 7) (TF 7 0 3) [] (sAt [])) = (true, true) := by kernel_rfl
theorem c7_3_1 : (chkC (TF 7 1 3) (TC 7), chkH (TC 7) (TF 7 1 3) [] (sAt [])) = (true, true) := by kernel_rfl
theorem c7_3_2 : (chkC (TF 7 2 3) (TC 7), chkH (TC 7) (TF 7 2 3) [] (sAt [])) = (true, true) := by kernel_rfl
theorem c7_4_0 : (chkC (TF 7 0 4) (TC 7), chkH (TC 7) (TF 7 0 4) [] (sAt [])) = (true, true) := by kernel_rfl
theorem c7_4_1 : (chkC (TF 7 1 4) (TC 7), chkH (TC 7) (TF 7 1 4) [] (sAt [])) = (true, true) := by kernel_rfl
theorem c7_4_2 : (chkC (TF 7 2 4) (TC 7), chkH (TC 7) (TF 7 2 4) [] (sAt [])) = (true, true) := by kernel_rfl
theorem c7_5_0 : (chkC (TF 7 0 5) (TC 7), chkH (TC 7) (TF 7 0 5) [] (sAt [])) = (true, true) := by kernel_rfl
theorem c7_5_1 : (chkC (TF 7 1 5) (TC 7), chkH (TC 7) (TF 7 1 5) [] (sAt [])) = (true, true) := by kernel_rfl
theorem c7_5_2 : (chkC (TF 7 2 5) (TC 7), chkH (TC 7) (TF 7 2 5) [] (sAt [])) = (true, true) := by kernel_rfl
theorem c7_6_0 : (chkC (TF 7 0 6) (TC 7), chkH (TC 7) (TF 7 0 6) [] (sAt [])) = (true, true) := by kernel_rfl
theorem c7_6_1 : (chkC (TF 7 1 6) (TC 7), chkH (TC 7) (TF 7 1 6) [] (sAt [])) = (true, true) := by kernel_rfl
theorem c7_6_2 : (chkC (TF 7 2 6) (TC 7), chkH (TC 7) (TF 7 2 6) [] (sAt [])) = (true, true) := by kernel_rfl
theorem c8_0_0 : (chkC (TF 8 0 0) (TC 8), chkH (TC 8) (TF 8 0 0) [] (sAt [])) = (true, true) := by kernel_rfl
theorem c8_0_1 : (chkC (TF 8 1 0) (TC 8), chkH (TC 8) (TF 8 1 0) [] (sAt [])) = (true, true) := by kernel_rfl
theorem c8_0_2 : (chkC (TF 8 2 0) (TC 8), chkH (TC 8) (TF 8 2 0) [] (sAt [])) = (true, true) := by kernel_rfl
theorem c8_1_0 : (chkC (TF 8 0 1) (TC 8), chkH (TC 8) (TF 8 0 1) [] (sAt [])) = (true, true) := by kernel_rfl
theorem c8_1_1 : (chkC (TF 8 1 1) (TC 8), chkH (TC 8) (TF 8 1 1) [] (sAt [])) = (true, true) := by kernel_rfl
theorem c8_1_2 : (chkC (TF 8 2 1) (TC 8), chkH (TC 8) (TF 8 2 1) [] (sAt [])) = (true, true) := by kernel_rfl
theorem c8_2_0 : (chkC (TF 8 0 2) (TC 8), chkH (TC 8) (TF 8 0 2) [] (sAt [])) = (true, true) := by kernel_rfl
theorem c8_2_1 : (chkC (TF 8 1 2) (TC 8), chkH (TC 8) (TF 8 1 2) [] (sAt [])) = (true, true) := by kernel_rfl
theorem c8_2_2 : (chkC (TF 8 2 2) (TC 8), chkH (TC 8) (TF 8 2 2) [] (sAt [])) = (true, true) := by kernel_rfl
theorem c8_3_0 : (chkC (TF 8 0 3) (TC 8), chkH (TC 8) (TF 8 0 3) [] (sAt [])) = (true, true) := by kernel_rfl
theorem c8_3_1 : (chkC (TF 8 1 3) (TC 8), chkH (TC 8) (TF 8 1 3) [] (sAt [])) = (true, true) := by kernel_rfl
theorem c8_3_2 : (chkC (TF 8 2 3) (TC 8), chkH (TC 8) (TF 8 2 3) [] (sAt [])) = (true, true) := by kernel_rfl
theorem c8_4_0 : (chkC (TF 8 0 4) (TC 8), chkH (TC 8) (TF 8 0 4) [] (sAt [])) = (true, true) := by kernel_rfl
theorem c8_4_1 : (chkC (TF 8 1 4) (TC 8), chkH (TC 8) (TF 8 1 4) [] (sAt [])) = (true, true) := by kernel_rfl
theorem c8_4_2 : (chkC (TF 8 2 4) (TC 8), chkH (TC 8) (TF 8 2 4) [] (sAt [])) = (true, true) := by kernel_rfl
theorem c8_5_0 : (chkC (TF 8 0 5) (TC 8), chkH (TC 8) (TF 8 0 5) [] (sAt [])) = (true, true) := by kernel_rfl
theorem c8_5_1 : (chkC (TF 8 1 5) (TC 8), chkH (TC 8) (TF 8 1 5) [] (sAt [])) = (true, true) := by kernel_rfl
theorem c8_5_2 : (chkC (TF 8 2 5) (TC 8), chkH (TC 8) (TF 8 2 5) [] (sAt [])) = (true, true) := by kernel_rfl
theorem c8_6_0 : (chkC (TF 8 0 6) (TC 8), chkH (TC 8) (TF 8 0 6) [] (sAt [])) = (true, true) := by kernel_rfl
theorem c8_6_1 : (chkC (TF 8 1 6) (TC 8), chkH (TC 8) (TF 8 1 6) [] (sAt [])) = (true, true) := by kernel_rfl
theorem c8_6_2 : (chkC (TF 8 2 6) (TC 8), chkH (TC 8) (TF 8 2 6) [] (sAt [])) = (true, true) := by kernel_rfl
theorem c8_7_0 : (chkC (TF 8 0 7) (TC 8), chkH (TC 8) (TF 8 0 7) [] (sAt [])) = (true, true) := by kernel_rfl
theorem c8_7_1 : (chkC (TF 8 1 7) (TC 8), chkH (TC 8) (TF 8 1 7) [] (sAt [])) = (true, true) := by kernel_rfl
theorem c8_7_2 : (chkC (TF 8 2 7) (TC 8), chkH (TC 8) (TF 8 2 7) [] (sAt [])) = (true, true) := by kernel_rfl
theorem pk_all (m y s : Nat) (h1 : 1 ≤ m) (h8 : m ≤ 8) (hy : y < m) (hs : s ≤ 2) : PkR m y s := by
  rcases (by omega : m = 1 ∨ m = 2 ∨ m = 3 ∨ m = 4 ∨ m = 5 ∨ m = 6 ∨ m = 7 ∨ m = 8) with rfl | rfl | rfl | rfl | rfl | rfl | rfl | rfl
  · rcases (by omega : y = 0) with rfl
    · rcases (by omega : s = 0 ∨ s = 1 ∨ s = 2) with rfl | rfl | rfl
      · exact kP1_0_0
      · exact kP1_0_1
      · exact kP1_0_2
  · rcases (by omega : y = 0 ∨ y = 1) with rfl | rfl
    · rcases (by omega : s = 0 ∨ s = 1 ∨ s = 2) with rfl | rfl | rfl
      · exact kP2_0_0
      · exact kP2_0_1
      · exact kP2_0_2
    · rcases (by omega : s = 0 ∨ s = 1 ∨ s = 2) with rfl | rfl | rfl
      · exact kP2_1_0
      · exact kP2_1_1
      · exact kP2_1_2
  · rcases (by omega : y = 0 ∨ y = 1 ∨ y = 2) with rfl | rfl | rfl
    · rcases (by omega : s = 0 ∨ s = 1 ∨ s = 2) with rfl | rfl | rfl
      · exact kP3_0_0
      · exact kP3_0_1
      · exact kP3_0_2
    · rcases (by omega : s = 0 ∨ s = 1 ∨ s = 2) with rfl | rfl | rfl
      · exact kP3_1_0
      · exact kP3_1_1
      · exact kP3_1_2
    · rcases (by omega : s = 0 ∨ s = 1 ∨ s = 2) with rfl | rfl | rfl
      · exact kP3_2_0
      · exact kP3_2_1
      · exact kP3_2_2
  · rcases (by omega : y = 0 ∨ y = 1 ∨ y = 2 ∨ y = 3) with rfl | rfl | rfl | rfl
    · rcases (by omega : s = 0 ∨ s = 1 ∨ s = 2) with rfl | rfl | rfl
      · exact kP4_0_0
      · exact kP4_0_1
      · exact kP4_0_2
    · rcases (by omega : s = 0 ∨ s = 1 ∨ s = 2) with rfl | rfl | rfl
      · exact kP4_1_0
      · exact kP4_1_1
      · exact kP4_1_2
    · rcases (by omega : s = 0 ∨ s = 1 ∨ s = 2) with rfl | rfl | rfl
      · exact kP4_2_0
      · exact kP4_2_1
      · exact kP4_2_2
    · rcases (by omega : s = 0 ∨ s = 1 ∨ s = 2) with rfl | rfl | rfl
      · exact kP4_3_0
      · exact kP4_3_1
      · exact kP4_3_2
  · rcases (by omega : y = 0 ∨ y = 1 ∨ y = 2 ∨ y = 3 ∨ y = 4) with rfl | rfl | rfl | rfl | rfl
    · rcases (by omega : s = 0 ∨ s = 1 ∨ s = 2) with rfl | rfl | rfl
      · exact kP5_0_0
      · exact kP5_0_1
      · exact kP5_0_2
    · rcases (by omega : s = 0 ∨ s = 1 ∨ s = 2) with rfl | rfl | rfl
      · exact kP5_1_0
      · exact kP5_1_1
      · exact kP5_1_2
    · rcases (by omega : s = 0 ∨ s = 1 ∨ s = 2) with rfl | rfl | rfl
      · exact kP5_2_0
      · exact kP5_2_1
      · exact kP5_2_2
    · rcases (by omega : s = 0 ∨ s = 1 ∨ s = 2) with rfl | rfl | rfl
      · exact kP5_3_0
      · exact kP5_3_1
      · exact kP5_3_2
    · rcases (by omega : s = 0 ∨ s = 1 ∨ s = 2) with rfl | rfl | rfl
      · exact kP5_4_0
      · exact kP5_4_1
      · exact kP5_4_2
  · rcases (by omega : y = 0 ∨ y = 1 ∨ y = 2 ∨ y = 3 ∨ y = 4 ∨ y = 5) with rfl | rfl | rfl | rfl | rfl | rfl
    · rcases (by omega : s = 0 ∨ s = 1 ∨ s = 2) with rfl | rfl | rfl
      · exact kP6_0_0
      · exact kP6_0_1
      · exact kP6_0_2
    · rcases (by omega : s = 0 ∨ s = 1 ∨ s = 2) with rfl | rfl | rfl
      · exact kP6_1_0
      · exact kP6_1_1
      · exact kP6_1_2
    · rcases (by omega : s = 0 ∨ s = 1 ∨ s = 2) with rfl | rfl | rfl
      · exact kP6_2_0
      · exact kP6_2_1
      · exact kP6_2_2
    · rcases (by omega : s = 0 ∨ s = 1 ∨ s = 2) with rfl | rfl | rfl
      · exact kP6_3_0
      · exact kP6_3_1
      · exact kP6_3_2
    · rcases (by omega : s = 0 ∨ s = 1 ∨ s = 2) with rfl | rfl | rfl
      · exact kP6_4_0
      · exact kP6_4_1
      · exact kP6_4_2
    · rcases (by omega : s = 0 ∨ s = 1 ∨ s = 2) with rfl | rfl | rfl
      · exact kP6_5_0
      · exact kP6_5_1
      · exact kP6_5_2
  · rcases (by omega : y = 0 ∨ y = 1 ∨ y = 2 ∨ y = 3 ∨ y = 4 ∨ y = 5 ∨ y = 6) with rfl | rfl | rfl | rfl | rfl | rfl | rfl
    · rcases (by omega : s = 0 ∨ s = 1 ∨ s = 2) with rfl | rfl | rfl
      · exact kP7_0_0
      · exact kP7_0_1
      · exact kP7_0_2
    · rcases (by omega : s = 0 ∨ s = 1 ∨ s = 2) with rfl | rfl | rfl
      · exact kP7_1_0
      · exact kP7_1_1
      · exact kP7_1_2
    · rcases (by omega : s = 0 ∨ s = 1 ∨ s = 2) with rfl | rfl | rfl
      · exact kP7_2_0
      · exact kP7_2_1
      · exact kP7_2_2
    · rcases (by omega : s = 0 ∨ s = 1 ∨ s = 2) with rfl | rfl | rfl
      · exact kP7_3_0
      · exact kP7_3_1
      · exact kP7_3_2
    · rcases (by omega : s = 0 ∨ s = 1 ∨ s = 2) with rfl | rfl | rfl
      · exact kP7_4_0
      · exact kP7_4_1
      · exact kP7_4_2
    · rcases (by omega : s = 0 ∨ s = 1 ∨ s = 2) with rfl | rfl | rfl
      · exact kP7_5_0
      · exact kP7_5_1
      · exact kP7_5_2
    · rcases (by omega : s = 0 ∨ s = 1 ∨ s = 2) with rfl | rfl | rfl
      · exact kP7_6_0
      · exact kP7_6_1
      · exact kP7_6_2
  · rcases (by omega : y = 0 ∨ y = 1 ∨ y = 2 ∨ y = 3 ∨ y = 4 ∨ y = 5 ∨ y = 6 ∨ y = 7) with rfl | rfl | rfl | rfl | rfl | rfl | rfl | rfl
    · rcases (by omega : s = 0 ∨ s = 1 ∨ s = 2) with rfl | rfl | rfl
      · exact kP8_0_0
      · exact kP8_0_1
      · exact kP8_0_2
    · rcases (by omega : s = 0 ∨ s = 1 ∨ s = 2) with rfl | rfl | rfl
      · exact kP8_1_0
      · exact kP8_1_1
      · exact kP8_1_2
    · rcases (by omega : s = 0 ∨ s = 1 ∨ s = 2) with rfl | rfl | rfl
      · exact kP8_2_0
      · exact kP8_2_1
      · exact kP8_2_2
    · rcases (by omega : s = 0 ∨ s = 1 ∨ s = 2) with rfl | rfl | rfl
      · exact kP8_3_0
      · exact kP8_3_1
      · exact kP8_3_2
    · rcases (by omega : s = 0 ∨ s = 1 ∨ s = 2) with rfl | rfl | rfl
      · exact kP8_4_0
      · exact kP8_4_1
      · exact kP8_4_2
    · rcases (by omega : s = 0 ∨ s = 1 ∨ s = 2) with rfl | rfl | rfl
      · exact kP8_5_0
      · exact kP8_5_1
      · exact kP8_5_2
    · rcases (by omega : s = 0 ∨ s = 1 ∨ s = 2) with rfl | rfl | rfl
      · exact kP8_6_0
      · exact kP8_6_1
      · exact kP8_6_2
    · rcases (by omega : s = 0 ∨ s = 1 ∨ s = 2) with rfl | rfl | rfl
      · exact kP8_7_0
      · exact kP8_7_1
      · exact kP8_7_2
theorem ck_all (m y s : Nat) (h1 : 1 ≤ m) (h8 : m ≤ 8) (hy : y < m) (hs : s ≤ 2) : (chkC (TF m s y) (TC m), chkH (TC m) (TF m s y) [] (sAt [])) = (true, true) := by
  rcases (by omega : m = 1 ∨ m = 2 ∨ m = 3 ∨ m = 4 ∨ m = 5 ∨ m = 6 ∨ m = 7 ∨ m = 8) with rfl | rfl | rfl | rfl | rfl | rfl | rfl | rfl
  · rcases (by omega : y = 0) with rfl
    · rcases (by omega : s = 0 ∨ s = 1 ∨ s = 2) with rfl | rfl | rfl
      · exact c1_0_0
      · exact c1_0_1
      · exact c1_0_2
  · rcases (by omega : y = 0 ∨ y = 1) with rfl | rfl
    · rcases (by omega : s = 0 ∨ s = 1 ∨ s = 2) with rfl | rfl | rfl
      · exact c2_0_0
      · exact c2_0_1
      · exact c2_0_2
    · rcases (by omega : s = 0 ∨ s = 1 ∨ s = 2) with rfl | rfl | rfl
      · exact c2_1_0
      · exact c2_1_1
      · exact c2_1_2
  · rcases (by omega : y = 0 ∨ y = 1 ∨ y = 2) with rfl | rfl | rfl
    · rcases (by omega : s = 0 ∨ s = 1 ∨ s = 2) with rfl | rfl | rfl
      · exact c3_0_0
      · exact c3_0_1
      · exact c3_0_2
    · rcases (by omega : s = 0 ∨ s = 1 ∨ s = 2) with rfl | rfl | rfl
      · exact c3_1_0
      · exact c3_1_1
      · exact c3_1_2
    · rcases (by omega : s = 0 ∨ s = 1 ∨ s = 2) with rfl | rfl | rfl
      · exact c3_2_0
      · exact c3_2_1
      · exact c3_2_2
  · rcases (by omega : y = 0 ∨ y = 1 ∨ y = 2 ∨ y = 3) with rfl | rfl | rfl | rfl
    · rcases (by omega : s = 0 ∨ s = 1 ∨ s = 2) with rfl | rfl | rfl
      · exact c4_0_0
      · exact c4_0_1
      · exact c4_0_2
    · rcases (by omega : s = 0 ∨ s = 1 ∨ s = 2) with rfl | rfl | rfl
      · exact c4_1_0
      · exact c4_1_1
      · exact c4_1_2
    · rcases (by omega : s = 0 ∨ s = 1 ∨ s = 2) with rfl | rfl | rfl
      · exact c4_2_0
      · exact c4_2_1
      · exact c4_2_2
    · rcases (by omega : s = 0 ∨ s = 1 ∨ s = 2) with rfl | rfl | rfl
      · exact c4_3_0
      · exact c4_3_1
      · exact c4_3_2
  · rcases (by omega : y = 0 ∨ y = 1 ∨ y = 2 ∨ y = 3 ∨ y = 4) with rfl | rfl | rfl | rfl | rfl
    · rcases (by omega : s = 0 ∨ s = 1 ∨ s = 2) with rfl | rfl | rfl
      · exact c5_0_0
      · exact c5_0_1
      · exact c5_0_2
    · rcases (by omega : s = 0 ∨ s = 1 ∨ s = 2) with rfl | rfl | rfl
      · exact c5_1_0
      · exact c5_1_1
      · exact c5_1_2
    · rcases (by omega : s = 0 ∨ s = 1 ∨ s = 2) with rfl | rfl | rfl
      · exact c5_2_0
      · exact c5_2_1
      · exact c5_2_2
    · rcases (by omega : s = 0 ∨ s = 1 ∨ s = 2) with rfl | rfl | rfl
      · exact c5_3_0
      · exact c5_3_1
      · exact c5_3_2
    · rcases (by omega : s = 0 ∨ s = 1 ∨ s = 2) with rfl | rfl | rfl
      · exact c5_4_0
      · exact c5_4_1
      · exact c5_4_2
  · rcases (by omega : y = 0 ∨ y = 1 ∨ y = 2 ∨ y = 3 ∨ y = 4 ∨ y = 5) with rfl | rfl | rfl | rfl | rfl | rfl
    · rcases (by omega : s = 0 ∨ s = 1 ∨ s = 2) with rfl | rfl | rfl
      · exact c6_0_0
      · exact c6_0_1
      · exact c6_0_2
    · rcases (by omega : s = 0 ∨ s = 1 ∨ s = 2) with rfl | rfl | rfl
      · exact c6_1_0
      · exact c6_1_1
      · exact c6_1_2
    · rcases (by omega : s = 0 ∨ s = 1 ∨ s = 2) with rfl | rfl | rfl
      · exact c6_2_0
      · exact c6_2_1
      · exact c6_2_2
    · rcases (by omega : s = 0 ∨ s = 1 ∨ s = 2) with rfl | rfl | rfl
      · exact c6_3_0
      · exact c6_3_1
      · exact c6_3_2
    · rcases (by omega : s = 0 ∨ s = 1 ∨ s = 2) with rfl | rfl | rfl
      · exact c6_4_0
      · exact c6_4_1
      · exact c6_4_2
    · rcases (by omega : s = 0 ∨ s = 1 ∨ s = 2) with rfl | rfl | rfl
      · exact c6_5_0
      · exact c6_5_1
      · exact c6_5_2
  · rcases (by omega : y = 0 ∨ y = 1 ∨ y = 2 ∨ y = 3 ∨ y = 4 ∨ y = 5 ∨ y = 6) with rfl | rfl | rfl | rfl | rfl | rfl | rfl
    · rcases (by omega : s = 0 ∨ s = 1 ∨ s = 2) with rfl | rfl | rfl
      · exact c7_0_0
      · exact c7_0_1
      · exact c7_0_2
    · rcases (by omega : s = 0 ∨ s = 1 ∨ s = 2) with rfl | rfl | rfl
      · exact c7_1_0
      · exact c7_1_1
      · exact c7_1_2
    · rcases (by omega : s = 0 ∨ s = 1 ∨ s = 2) with rfl | rfl | rfl
      · exact c7_2_0
      · exact c7_2_1
      · exact c7_2_2
    · rcases (by omega : s = 0 ∨ s = 1 ∨ s = 2) with rfl | rfl | rfl
      · exact c7_3_0
      · exact c7_3_1
      · exact c7_3_2
    · rcases (by omega : s = 0 ∨ s = 1 ∨ s = 2) with rfl | rfl | rfl
      · exact c7_4_0
      · exact c7_4_1
      · exact c7_4_2
    · rcases (by omega : s = 0 ∨ s = 1 ∨ s = 2) with rfl | rfl | rfl
      · exact c7_5_0
      · exact c7_5_1
      · exact c7_5_2
    · rcases (by omega : s = 0 ∨ s = 1 ∨ s = 2) with rfl | rfl | rfl
      · exact c7_6_0
      · exact c7_6_1
      · exact c7_6_2
  · rcases (by omega : y = 0 ∨ y = 1 ∨ y = 2 ∨ y = 3 ∨ y = 4 ∨ y = 5 ∨ y = 6 ∨ y = 7) with rfl | rfl | rfl | rfl | rfl | rfl | rfl | rfl
    · rcases (by omega : s = 0 ∨ s = 1 ∨ s = 2) with rfl | rfl | rfl
      · exact c8_0_0
      · exact c8_0_1
      · exact c8_0_2
    · rcases (by omega : s = 0 ∨ s = 1 ∨ s = 2) with rfl | rfl | rfl
      · exact c8_1_0
      · exact c8_1_1
      · exact c8_1_2
    · rcases (by omega : s = 0 ∨ s = 1 ∨ s = 2) with rfl | rfl | rfl
      · exact c8_2_0
      · exact c8_2_1
      · exact c8_2_2
    · rcases (by omega : s = 0 ∨ s = 1 ∨ s = 2) with rfl | rfl | rfl
      · exact c8_3_0
      · exact c8_3_1
      · exact c8_3_2
    · rcases (by omega : s = 0 ∨ s = 1 ∨ s = 2) with rfl | rfl | rfl
      · exact c8_4_0
      · exact c8_4_1
      · exact c8_4_2
    · rcases (by omega : s = 0 ∨ s = 1 ∨ s = 2) with rfl | rfl | rfl
      · exact c8_5_0
      · exact c8_5_1
      · exact c8_5_2
    · rcases (by omega : s = 0 ∨ s = 1 ∨ s = 2) with rfl | rfl | rfl
      · exact c8_6_0
      · exact c8_6_1
      · exact c8_6_2
    · rcases (by omega : s = 0 ∨ s = 1 ∨ s = 2) with rfl | rfl | rfl
      · exact c8_7_0
      · exact c8_7_1
      · exact c8_7_2
theorem s1_0 : (chkH (TF 1 0 0) (TB 1) [] (sAt []), allT (fun b ob => aliveC (TC 1) b || !aliveO ob || (Nat.ble (lowOf 0) b && Nat.blt b (lowOf 1))) (TF 1 0 0) 0 1, keepC (TC 1) (TF 1 0 0) []) = (true, true, true) := by kernel_rfl
theorem s2_0 : (chkH (TF 2 0 0) (TB 2) [] (sAt []), allT (fun b ob => aliveC (TC 2) b || !aliveO ob || (Nat.ble (lowOf 0) b && Nat.blt b (lowOf 1))) (TF 2 0 0) 0 1, keepC (TC 2) (TF 2 0 0) []) = (true, true, true) := by kernel_rfl
theorem s2_1 : (chkH (TF 2 0 1) (TB 2) [] (sAt []), allT (fun b ob => aliveC (TC 2) b || !aliveO ob || (Nat.ble (lowOf 1) b && Nat.blt b (lowOf 2))) (TF 2 0 1) 0 1, keepC (TC 2) (TF 2 0 1) []) = (true, true, true) := by kernel_rfl
theorem s3_0 : (chkH (TF 3 0 0) (TB 3) [] (sAt []), allT (fun b ob => aliveC (TC 3) b || !aliveO ob || (Nat.ble (lowOf 0) b && Nat.blt b (lowOf 1))) (TF 3 0 0) 0 1, keepC (TC 3) (TF 3 0 0) []) = (true, true, true) := by kernel_rfl
theorem s3_1 : (chkH (TF 3 0 1) (TB 3) [] (sAt []), allT (fun b ob => aliveC (TC 3) b || !aliveO ob || (Nat.ble (lowOf 1) b && Nat.blt b (lowOf 2))) (TF 3 0 1) 0 1, keepC (TC 3) (TF 3 0 1) []) = (true, true, true) := by kernel_rfl
theorem s3_2 : (chkH (TF 3 0 2) (TB 3) [] (sAt []), allT (fun b ob => aliveC (TC 3) b || !aliveO ob || (Nat.ble (lowOf 2) b && Nat.blt b (lowOf 3))) (TF 3 0 2) 0 1, keepC (TC 3) (TF 3 0 2) []) = (true, true, true) := by kernel_rfl
theorem s4_0 : (chkH (TF 4 0 0) (TB 4) [] (sAt []), allT (fun b ob => aliveC (TC 4) b || !aliveO ob || (Nat.ble (lowOf 0) b && Nat.blt b (lowOf 1))) (TF 4 0 0) 0 1, keepC (TC 4) (TF 4 0 0) []) = (true, true, true) := by kernel_rfl
theorem s4_1 : (chkH (TF 4 0 1) (TB 4) [] (sAt []), allT (fun b ob => aliveC (TC 4) b || !aliveO ob || (Nat.ble (lowOf 1) b && Nat.blt b (lowOf 2))) (TF 4 0 1) 0 1, keepC (TC 4) (TF 4 0 1) []) = (true, true, true) := by kernel_rfl
theorem s4_2 : (chkH (TF 4 0 2) (TB 4) [] (sAt []), allT (fun b ob => aliveC (TC 4) b || !aliveO ob || (Nat.ble (lowOf 2) b && Nat.blt b (lowOf 3))) (TF 4 0 2) 0 1, keepC (TC 4) (TF 4 0 2) []) = (true, true, true) := by kernel_rfl
theorem s4_3 : (chkH (TF 4 0 3) (TB 4) [] (sAt []), allT (fun b ob => aliveC (TC 4) b || !aliveO ob || (Nat.ble (lowOf 3) b && Nat.blt b (lowOf 4))) (TF 4 0 3) 0 1, keepC (TC 4) (TF 4 0 3) []) = (true, true, true) := by kernel_rfl
theorem s5_0 : (chkH (TF 5 0 0) (TB 5) [] (sAt []), allT (fun b ob => aliveC (TC 5) b || !aliveO ob || (Nat.ble (lowOf 0) b && Nat.blt b (lowOf 1))) (TF 5 0 0) 0 1, keepC (TC 5) (TF 5 0 0) []) = (true, true, true) := by kernel_rfl
theorem s5_1 : (chkH (TF 5 0 1) (TB 5) [] (sAt []), allT (fun b ob => aliveC (TC 5) b || !aliveO ob || (Nat.ble (lowOf 1) b && Nat.blt b (lowOf 2))) (TF 5 0 1) 0 1, keepC (TC 5) (TF 5 0 1) []) = (true, true, true) := by kernel_rfl
theorem s5_2 : (chkH (TF 5 0 2) (TB 5) [] (sAt []), allT (fun b ob => aliveC (TC 5) b || !aliveO ob || (Nat.ble (lowOf 2) b && Nat.blt b (lowOf 3))) (TF 5 0 2) 0 1, keepC (TC 5) (TF 5 0 2) []) = (true, true, true) := by kernel_rfl
theorem s5_3 : (chkH (TF 5 0 3) (TB 5) [] (sAt []), allT (fun b ob => aliveC (TC 5) b || !aliveO ob || (Nat.ble (lowOf 3) b && Nat.blt b (lowOf 4))) (TF 5 0 3) 0 1, keepC (TC 5) (TF 5 0 3) []) = (true, true, true) := by kernel_rfl
theorem s5_4 : (chkH (TF 5 0 4) (TB 5) [] (sAt []), allT (fun b ob => aliveC (TC 5) b || !aliveO ob || (Nat.ble (lowOf 4) b && Nat.blt b (lowOf 5))) (TF 5 0 4) 0 1, keepC (TC 5) (TF 5 0 4) []) = (true, true, true) := by kernel_rfl
theorem s6_0 : (chkH (TF 6 0 0) (TB 6) [] (sAt []), allT (fun b ob => aliveC (TC 6) b || !aliveO ob || (Nat.ble (lowOf 0) b && Nat.blt b (lowOf 1))) (TF 6 0 0) 0 1, keepC (TC 6) (TF 6 0 0) []) = (true, true, true) := by kernel_rfl
theorem s6_1 : (chkH (TF 6 0 1) (TB 6) [] (sAt []), allT (fun b ob => aliveC (TC 6) b || !aliveO ob || (Nat.ble (lowOf 1) b && Nat.blt b (lowOf 2))) (TF 6 0 1) 0 1, keepC (TC 6) (TF 6 0 1) []) = (true, true, true) := by kernel_rfl
theorem s6_2 : (chkH (TF 6 0 2) (TB 6) [] (sAt []), allT (fun b ob => aliveC (TC 6) b || !aliveO ob || (Nat.ble (lowOf 2) b && Nat.blt b (lowOf 3))) (TF 6 0 2) 0 1, keepC (TC 6) (TF 6 0 2) []) = (true, true, true) := by kernel_rfl
theorem s6_3 : (chkH (TF 6 0 3) (TB 6) [] (sAt []), allT (fun b ob => aliveC (TC 6) b || !aliveO ob || (Nat.ble (lowOf 3) b && Nat.blt b (lowOf 4))) (TF 6 0 3) 0 1, keepC (TC 6) (TF 6 0 3) []) = (true, true, true) := by kernel_rfl
theorem s6_4 : (chkH (TF 6 0 4) (TB 6) [] (sAt []), allT (fun b ob => aliveC (TC 6) b || !aliveO ob || (Nat.ble (lowOf 4) b && Nat.blt b (lowOf 5))) (TF 6 0 4) 0 1, keepC (TC 6) (TF 6 0 4) []) = (true, true, true) := by kernel_rfl
theorem s6_5 : (chkH (TF 6 0 5) (TB 6) [] (sAt []), allT (fun b ob => aliveC (TC 6) b || !aliveO ob || (Nat.ble (lowOf 5) b && Nat.blt b (lowOf 6))) (TF 6 0 5) 0 1, keepC (TC 6) (TF 6 0 5) []) = (true, true, true) := by kernel_rfl
theorem s7_0 : (chkH (TF 7 0 0) (TB 7) [] (sAt []), allT (fun b ob => aliveC (TC 7) b || !aliveO ob || (Nat.ble (lowOf 0) b && Nat.blt b (lowOf 1))) (TF 7 0 0) 0 1, keepC (TC 7) (TF 7 0 0) []) = (true, true, true) := by kernel_rfl
theorem s7_1 : (chkH (TF 7 0 1) (TB 7) [] (sAt []), allT (fun b ob => aliveC (TC 7) b || !aliveO ob || (Nat.ble (lowOf 1) b && Nat.blt b (lowOf 2))) (TF 7 0 1) 0 1, keepC (TC 7) (TF 7 0 1) []) = (true, true, true) := by kernel_rfl
theorem s7_2 : (chkH (TF 7 0 2) (TB 7) [] (sAt []), allT (fun b ob => aliveC (TC 7) b || !aliveO ob || (Nat.ble (lowOf 2) b && Nat.blt b (lowOf 3))) (TF 7 0 2) 0 1, keepC (TC 7) (TF 7 0 2) []) = (true, true, true) := by kernel_rfl
theorem s7_3 : (chkH (TF 7 0 3) (TB 7) [] (sAt []), allT (fun b ob => aliveC (TC 7) b || !aliveO ob || (Nat.ble (lowOf 3) b && Nat.blt b (lowOf 4))) (TF 7 0 3) 0 1, keepC (TC 7) (TF 7 0 3) []) = (true, true, true) := by kernel_rfl
theorem s7_4 : (chkH (TF 7 0 4) (TB 7) [] (sAt []), allT (fun b ob => aliveC (TC 7) b || !aliveO ob || (Nat.ble (lowOf 4) b && Nat.blt b (lowOf 5))) (TF 7 0 4) 0 1, keepC (TC 7) (TF 7 0 4) []) = (true, true, true) := by kernel_rfl
theorem s7_5 : (chkH (TF 7 0 5) (TB 7) [] (sAt []), allT (fun b ob => aliveC (TC 7) b || !aliveO ob || (Nat.ble (lowOf 5) b && Nat.blt b (lowOf 6))) (TF 7 0 5) 0 1, keepC (TC 7) (TF 7 0 5) []) = (true, true, true) := by kernel_rfl
theorem s7_6 : (chkH (TF 7 0 6) (TB 7) [] (sAt []), allT (fun b ob => aliveC (TC 7) b || !aliveO ob || (Nat.ble (lowOf 6) b && Nat.blt b (lowOf 7))) (TF 7 0 6) 0 1, keepC (TC 7) (TF 7 0 6) []) = (true, true, true) := by kernel_rfl
theorem s8_0 : (chkH (TF 8 0 0) (TB 8) [] (sAt []), allT (fun b ob => aliveC (TC 8) b || !aliveO ob || (Nat.ble (lowOf 0) b && Nat.blt b (lowOf 1))) (TF 8 0 0) 0 1, keepC (TC 8) (TF 8 0 0) []) = (true, true, true) := by kernel_rfl
theorem s8_1 : (chkH (TF 8 0 1) (TB 8) [] (sAt []), allT (fun b ob => aliveC (TC 8) b || !aliveO ob || (Nat.ble (lowOf 1) b && Nat.blt b (lowOf 2))) (TF 8 0 1) 0 1, keepC (TC 8) (TF 8 0 1) []) = (true, true, true) := by kernel_rfl
theorem s8_2 : (chkH (TF 8 0 2) (TB 8) [] (sAt []), allT (fun b ob => aliveC (TC 8) b || !aliveO ob || (Nat.ble (lowOf 2) b && Nat.blt b (lowOf 3))) (TF 8 0 2) 0 1, keepC (TC 8) (TF 8 0 2) []) = (true, true, true) := by kernel_rfl
theorem s8_3 : (chkH (TF 8 0 3) (TB 8) [] (sAt []), allT (fun b ob => aliveC (TC 8) b || !aliveO ob || (Nat.ble (lowOf 3) b && Nat.blt b (lowOf 4))) (TF 8 0 3) 0 1, keepC (TC 8) (TF 8 0 3) []) = (true, true, true) := by kernel_rfl
theorem s8_4 : (chkH (TF 8 0 4) (TB 8) [] (sAt []), allT (fun b ob => aliveC (TC 8) b || !aliveO ob || (Nat.ble (lowOf 4) b && Nat.blt b (lowOf 5))) (TF 8 0 4) 0 1, keepC (TC 8) (TF 8 0 4) []) = (true, true, true) := by kernel_rfl
theorem s8_5 : (chkH (TF 8 0 5) (TB 8) [] (sAt []), allT (fun b ob => aliveC (TC 8) b || !aliveO ob || (Nat.ble (lowOf 5) b && Nat.blt b (lowOf 6))) (TF 8 0 5) 0 1, keepC (TC 8) (TF 8 0 5) []) = (true, true, true) := by kernel_rfl
theorem s8_6 : (chkH (TF 8 0 6) (TB 8) [] (sAt []), allT (fun b ob => aliveC (TC 8) b || !aliveO ob || (Nat.ble (lowOf 6) b && Nat.blt b (lowOf 7))) (TF 8 0 6) 0 1, keepC (TC 8) (TF 8 0 6) []) = (true, true, true) := by kernel_rfl
theorem s8_7 : (chkH (TF 8 0 7) (TB 8) [] (sAt []), allT (fun b ob => aliveC (TC 8) b || !aliveO ob || (Nat.ble (lowOf 7) b && Nat.blt b (lowOf 8))) (TF 8 0 7) 0 1, keepC (TC 8) (TF 8 0 7) []) = (true, true, true) := by kernel_rfl
theorem z1 : hasB ((TC 1).get 64) = true := by kernel_rfl
theorem z2 : hasB ((TC 2).get 64) = true := by kernel_rfl
theorem z3 : hasB ((TC 3).get 64) = true := by kernel_rfl
theorem z4 : hasB ((TC 4).get 64) = true := by kernel_rfl
theorem z5 : hasB ((TC 5).get 64) = true := by kernel_rfl
theorem z6 : hasB ((TC 6).get 64) = true := by kernel_rfl
theorem z7 : hasB ((TC 7).get 64) = true := by kernel_rfl
theorem z8 : hasB ((TC 8).get 64) = true := by kernel_rfl
theorem start_all (m y : Nat) (h1 : 1 ≤ m) (h8 : m ≤ 8) (hy : y < m) : (chkH (TF m 0 y) (TB m) [] (sAt []), allT (fun b ob => aliveC (TC m) b || !aliveO ob || (Nat.ble (lowOf y) b && Nat.blt b (lowOf (y + 1)))) (TF m 0 y) 0 1, keepC (TC m) (TF m 0 y) []) = (true, true, true) := by
  rcases (by omega : m = 1 ∨ m = 2 ∨ m = 3 ∨ m = 4 ∨ m = 5 ∨ m = 6 ∨ m = 7 ∨ m = 8) with rfl | rfl | rfl | rfl | rfl | rfl | rfl | rfl
  · rcases (by omega : y = 0) with rfl
    · exact s1_0
  · rcases (by omega : y = 0 ∨ y = 1) with rfl | rfl
    · exact s2_0
    · exact s2_1
  · rcases (by omega : y = 0 ∨ y = 1 ∨ y = 2) with rfl | rfl | rfl
    · exact s3_0
    · exact s3_1
    · exact s3_2
  · rcases (by omega : y = 0 ∨ y = 1 ∨ y = 2 ∨ y = 3) with rfl | rfl | rfl | rfl
    · exact s4_0
    · exact s4_1
    · exact s4_2
    · exact s4_3
  · rcases (by omega : y = 0 ∨ y = 1 ∨ y = 2 ∨ y = 3 ∨ y = 4) with rfl | rfl | rfl | rfl | rfl
    · exact s5_0
    · exact s5_1
    · exact s5_2
    · exact s5_3
    · exact s5_4
  · rcases (by omega : y = 0 ∨ y = 1 ∨ y = 2 ∨ y = 3 ∨ y = 4 ∨ y = 5) with rfl | rfl | rfl | rfl | rfl | rfl
    · exact s6_0
    · exact s6_1
    · exact s6_2
    · exact s6_3
    · exact s6_4
    · exact s6_5
  · rcases (by omega : y = 0 ∨ y = 1 ∨ y = 2 ∨ y = 3 ∨ y = 4 ∨ y = 5 ∨ y = 6) with rfl | rfl | rfl | rfl | rfl | rfl | rfl
    · exact s7_0
    · exact s7_1
    · exact s7_2
    · exact s7_3
    · exact s7_4
    · exact s7_5
    · exact s7_6
  · rcases (by omega : y = 0 ∨ y = 1 ∨ y = 2 ∨ y = 3 ∨ y = 4 ∨ y = 5 ∨ y = 6 ∨ y = 7) with rfl | rfl | rfl | rfl | rfl | rfl | rfl | rfl
    · exact s8_0
    · exact s8_1
    · exact s8_2
    · exact s8_3
    · exact s8_4
    · exact s8_5
    · exact s8_6
    · exact s8_7
end Go.Vm.Hr
