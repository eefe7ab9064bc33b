/- The law HouseOrder: what a pick does, from each state. -/
import Derived.Test.YtlaeoahhfalkiaaGreatDoorHoR9
import Derived.Test.YtlaeoahhfalkiaaGreatDoorHoR8
import Derived.Test.YtlaeoahhfalkiaaGreatDoorHoR7
import Derived.Test.YtlaeoahhfalkiaaGreatDoorHoR6
import Derived.Test.YtlaeoahhfalkiaaGreatDoorHoR5
import Derived.Test.YtlaeoahhfalkiaaGreatDoorHoR4
import Derived.Test.YtlaeoahhfalkiaaGreatDoorHoR3
import Derived.Test.YtlaeoahhfalkiaaGreatDoorHoR2
import Derived.Test.YtlaeoahhfalkiaaGreatDoorHoR1
import Derived.Test.YtlaeoahhfalkiaaGreatDoorHoR0
set_option linter.unusedVariables false
set_option maxRecDepth 100000
namespace Go.Vm.Ho
open Go.Vm Go.Proofs Go.RowKit
def Ev (l0 l1 l2 l3 n : Int) : Nat → Int
  | 0 => l0
  | 1 => l1
  | 2 => l2
  | 3 => l3
  | 4 => n
  | _ => 0
section
variable {l0 l1 l2 l3 n : Int}
theorem ev_up : envS (Ev l0 l1 l2 l3 0) (sAt [.v 0, .v 1, .v 2, .v 3, .c n]) = Ev l0 l1 l2 l3 n := by
  funext i
  match i with
  | 0 => rfl
  | 1 => rfl
  | 2 => rfl
  | 3 => rfl
  | 4 => rfl
  | _ + 5 => rfl
theorem ev_dn : envS (Ev l0 l1 l2 l3 n) (sAt [.v 0, .v 1, .v 2, .v 3]) = Ev l0 l1 l2 l3 0 := by
  funext i
  match i with
  | 0 => rfl
  | 1 => rfl
  | 2 => rfl
  | 3 => rfl
  | 4 => rfl
  | _ + 5 => rfl
theorem up {n0 : Old} {M : Mp} {T : Tr Ob} {w : World} (R : Rel (Ev l0 l1 l2 l3 0) n0 M T w) (hc : chkH T T [] (sAt [.v 0, .v 1, .v 2, .v 3, .c n]) = true) :
    Rel (Ev l0 l1 l2 l3 n) n0 (mpS (sg T []) M) T w ∧ ∀ b pl, sg T [] b = some b → M b = some pl → mpS (sg T []) M b = some pl :=
  ⟨by rw [← ev_up]; exact R.told hc, fun b pl hb hM => by show (sg T [] b).bind M = _; rw [hb]; exact hM⟩
end
def sumI (l0 l1 l2 l3 : Int) : Nat → Int
  | 0 => 0
  | 1 => l0
  | 2 => l0 + l1
  | 3 => l0 + l1 + l2
  | _ => l0 + l1 + l2 + l3
/-- What a pick answers of a call that has ended: which, and the sum. -/
def EndR (r : Value) (w : World) (k : Nat) (s : Int) : Prop := ∃ b o c b2 o2 c2, 1 ≤ c ∧ 1 ≤ c2 ∧ r = .slice (some ⟨b, o, none⟩) 1 c ∧ w.cell? ⟨b, o, none⟩ = some (.int .u64 k) ∧ w.cell? ⟨b, o + 2, none⟩ = some (.slice (some ⟨b2, o2, none⟩) 1 c2) ∧ w.cell? ⟨b2, o2, none⟩ = some (.int .u64 s)
def PP (l0 l1 l2 l3 : Int) (hp : Pl) (n0 : Old) (m g : Nat) (n : Int) (r : Value) (w' : World) : Prop :=
  ∃ g' M', M' 64 = some hp ∧ Rel (Ev l0 l1 l2 l3 0) n0 M' (TS m g') w' ∧ g ≤ g' ∧ (0 < n → g < g') ∧
    ((g' / 6 = g / 6 ∧ r = .slice none 0 0) ∨ (g' = 6 * (g / 6 + 1) ∧ EndR r w' (g / 6) (sumI l0 l1 l2 l3 (g / 6 + 1))))
def Pk (m g : Nat) : Prop := ∀ (l0 l1 l2 l3 n : Int), (0 ≤ l0 ∧ l0 < 256) → (0 ≤ l1 ∧ l1 < 256) → (0 ≤ l2 ∧ l2 < 256) → (0 ≤ l3 ∧ l3 < 256) → (0 ≤ n ∧ n ≤ 8) → ∀ (hp : Pl) (n0 : Old) (M : Mp) (w : World),
  M 64 = some hp → Rel (Ev l0 l1 l2 l3 0) n0 M (TS m g) w →
  Calls Tryz.prog 11 #[.pointer (some ⟨hp.blk, hp.off, none⟩), .int .i64 0, .int .i64 n] w fun e w' => ∃ r, e = .returned r ∧ Below n0.n w w' ∧ PP l0 l1 l2 l3 hp n0 m g n r w'
section
variable {l0 l1 l2 l3 n : Int} {hp : Pl} {n0 : Old} {M : Mp} {m g g' : Nat} {r : Value} {w' : World}
theorem PP_no (lf : Lf) (hv : lf.v = .sl none 0 0) (hs : lf.s = [.v 0, .v 1, .v 2, .v 3]) (hk : sg lf.T lf.l 64 = some 64) (hT : lf.T = TS m g') (h : LfR (Ev l0 l1 l2 l3 n) n0 M r w' lf) (hM : M 64 = some hp)
    (h1 : g ≤ g') (h2 : g' / 6 = g / 6) (h3 : 0 < n → g < g') : PP l0 l1 l2 l3 hp n0 m g n r w' := by
  obtain ⟨M', k, R, v⟩ := h
  rw [hs, ev_dn] at R v
  rw [hv] at v
  rw [hT] at R
  exact ⟨g', M', k 64 hp hk hM, R, h1, h3, .inl ⟨h2, v.sln⟩⟩
theorem PP_fin (lf : Lf) (b c : Nat) (e : IE) (ps : List (Nat × Nat)) (hv : lf.v = .sl (some (b, 0)) 1 1) (hs : lf.s = [.v 0, .v 1, .v 2, .v 3]) (hk : sg lf.T lf.l 64 = some 64)
    (h0 : cellT lf.T b 0 = some (.i .u64 (.c (.ofNat (g / 6))))) (h2 : cellT lf.T b 2 = some (.sl (some (c, 0)) 1 1)) (h3 : cellT lf.T c 0 = some (.i .u64 e))
    (hsum : e.den (Ev l0 l1 l2 l3 0) = sumI l0 l1 l2 l3 (g / 6 + 1)) (hdrop : chkH (TS m g') lf.T ps (sAt [.v 0, .v 1, .v 2, .v 3]) = true) (hk2 : sg (TS m g') ps 64 = some 64)
    (h : LfR (Ev l0 l1 l2 l3 n) n0 M r w' lf) (hM : M 64 = some hp) (hg : g' = 6 * (g / 6 + 1)) : PP l0 l1 l2 l3 hp n0 m g n r w' := by
  obtain ⟨M', k, R, v⟩ := h
  rw [hs, ev_dn] at R v
  rw [hv] at v
  obtain ⟨pb, cb, hb, hcb, _, _, rfl⟩ := v.slw0 (by decide)
  obtain ⟨x0, d0, u0⟩ := R.cellK hb 0 _ h0
  obtain ⟨x2, d2, u2⟩ := R.cellK hb 2 _ h2
  obtain ⟨pc, cc, hc, hcc, _, _, rfl⟩ := u2.slw0 (by decide)
  obtain ⟨x3, d3, u3⟩ := R.cellK hc 0 _ h3
  have e0 := u0.intv
  have e3 := u3.intv
  subst e0 e3
  rw [hsum] at d3
  have R2 := R.told hdrop
  rw [ev_dn] at R2
  refine ⟨g', _, ?_, R2, by omega, fun _ => by omega, .inr ⟨hg, pb.blk, pb.off, cb, pc.blk, pc.off, cc, hcb, hcc, rfl, d0, d2, d3⟩⟩
  show (sg (TS m g') ps 64).bind M' = _
  rw [hk2]
  exact k 64 hp hk hM
theorem lt_min (env : Nat → Int) (k L : Nat) (hk : 0 < L) : (BE.lt (.c (.ofNat k)) (.bin .min .i64 (.v 4) (.c (.ofNat L)))).den env = decide ((k : Int) < min (env 4) (L : Int)) := by
  cases h : (BE.lt (.c (.ofNat k)) (.bin .min .i64 (.v 4) (.c (.ofNat L)))).den env with
  | true =>
    have := (den_iff env _ _).1 h
    simp only [BE.P, IE.den, den_min] at this
    exact (decide_eq_true this).symm
  | false =>
    have := (den_iff env _ _).1 h
    simp only [BE.P, IE.den, den_min] at this
    exact (decide_eq_false (by simpa using this)).symm
end
theorem big_no {env : Nat → Int} {i : Nat} (h0 : 0 ≤ env i ∧ env i < 256) (h : (BE.lt (.c (.ofNat 4294967295)) (.v i)).den env = true) : False := by
  have := (den_iff env _ _).1 h
  simp only [BE.P, IE.den, Int.ofNat_eq_natCast] at this
  omega
theorem pk1_0 : Pk 1 0 := by
  intro l0 l1 l2 l3 n b0 b1 b2 b3 bn hp n0 M w hM R
  replace R : Rel _ n0 M t4 w := R
  have R1 := up (n := n) R (by kernel_rfl)
  refine (tree_rel hT_b mixed_ok hF_b (by decide) P1_0_r ⟨fun _ => ⟨fun _ => ⟨fun _ => ⟨fun _ => ⟨fun _ => ⟨fun _ => trivial, fun _ => trivial⟩, fun _ => trivial⟩, fun _ => trivial⟩, fun _ => trivial⟩, fun _ => trivial⟩, fun _ => trivial⟩ R1.1 (.cons _ _ _ _ (.p0 64 hp (R1.2 64 hp (by kernel_rfl) hM)) (.cons _ _ _ _ (.i _ _) (.cons _ _ _ _ (.i _ (.v 4)) .nil)))).mono ?_
  rintro e w' ⟨r, rfl, hb, hat⟩
  replace hM := R1.2 64 hp (by kernel_rfl) hM
  clear R R1
  refine ⟨r, rfl, hb, ?_⟩
  rcases hat with (⟨c0, (⟨c1, (⟨c2, (⟨c3, (⟨c4, (⟨c5, h⟩ | ⟨c5, h⟩)⟩ | ⟨c4, h⟩)⟩ | ⟨c3, h⟩)⟩ | ⟨c2, h⟩)⟩ | ⟨c1, h⟩)⟩ | ⟨c0, h⟩)
  · exact PP_fin (g' := 6) P1_0_0 103 104 (.bin .and .u64 (.wrap .u64 (.bin .add .u64 (.c (.ofNat 0)) (.bin .and .u64 (.bin .and .u64 (.v 0) (.c (.ofNat 4294967295))) (.c (.ofNat 4294967295))))) (.c (.ofNat 4294967295))) [(103, 105)] rfl rfl (by kernel_rfl) (by kernel_rfl) (by kernel_rfl) (by kernel_rfl) (by show IE.den (Ev l0 l1 l2 l3 0) _ = sumI l0 l1 l2 l3 1; simp (disch := omega) only [IE.den, den_add, den_and, wrap_u64, and_low, Ev, sumI, Int.ofNat_eq_natCast]; omega) (by kernel_rfl) (by kernel_rfl) h hM (by omega)
  · exact PP_no (g' := 5) P1_0_1 rfl rfl (by kernel_rfl) (by kernel_rfl) h hM (by omega) (by omega) (fun _ => by omega)
  · exact PP_no (g' := 4) P1_0_2 rfl rfl (by kernel_rfl) (by kernel_rfl) h hM (by omega) (by omega) (fun _ => by omega)
  · exact PP_no (g' := 3) P1_0_3 rfl rfl (by kernel_rfl) (by kernel_rfl) h hM (by omega) (by omega) (fun _ => by omega)
  · exact PP_no (g' := 2) P1_0_4 rfl rfl (by kernel_rfl) (by kernel_rfl) h hM (by omega) (by omega) (fun _ => by omega)
  · exact PP_no (g' := 1) P1_0_5 rfl rfl (by kernel_rfl) (by kernel_rfl) h hM (by omega) (by omega) (fun _ => by omega)
  · exact PP_no (g' := 0) P1_0_6 rfl rfl (by kernel_rfl) (by kernel_rfl) h hM (by omega) (by omega) (fun hn => absurd c0 (by rw [lt_min _ _ _ (by decide)]; simp [Ev]; omega))
theorem pk1_1 : Pk 1 1 := by
  intro l0 l1 l2 l3 n b0 b1 b2 b3 bn hp n0 M w hM R
  replace R : Rel _ n0 M t10 w := R
  have R1 := up (n := n) R (by kernel_rfl)
  refine (tree_rel hT_b mixed_ok hF_b (by decide) P1_1_r ⟨fun _ => ⟨fun _ => ⟨fun _ => ⟨fun _ => ⟨fun _ => trivial, fun _ => trivial⟩, fun _ => trivial⟩, fun _ => trivial⟩, fun _ => trivial⟩, fun _ => trivial⟩ R1.1 (.cons _ _ _ _ (.p0 64 hp (R1.2 64 hp (by kernel_rfl) hM)) (.cons _ _ _ _ (.i _ _) (.cons _ _ _ _ (.i _ (.v 4)) .nil)))).mono ?_
  rintro e w' ⟨r, rfl, hb, hat⟩
  replace hM := R1.2 64 hp (by kernel_rfl) hM
  clear R R1
  refine ⟨r, rfl, hb, ?_⟩
  rcases hat with (⟨c0, (⟨c1, (⟨c2, (⟨c3, (⟨c4, h⟩ | ⟨c4, h⟩)⟩ | ⟨c3, h⟩)⟩ | ⟨c2, h⟩)⟩ | ⟨c1, h⟩)⟩ | ⟨c0, h⟩)
  · exact PP_fin (g' := 6) P1_1_0 103 104 (.bin .and .u64 (.wrap .u64 (.bin .add .u64 (.c (.ofNat 0)) (.bin .and .u64 (.bin .and .u64 (.v 0) (.c (.ofNat 4294967295))) (.c (.ofNat 4294967295))))) (.c (.ofNat 4294967295))) [(103, 105)] rfl rfl (by kernel_rfl) (by kernel_rfl) (by kernel_rfl) (by kernel_rfl) (by show IE.den (Ev l0 l1 l2 l3 0) _ = sumI l0 l1 l2 l3 1; simp (disch := omega) only [IE.den, den_add, den_and, wrap_u64, and_low, Ev, sumI, Int.ofNat_eq_natCast]; omega) (by kernel_rfl) (by kernel_rfl) h hM (by omega)
  · exact PP_no (g' := 5) P1_1_1 rfl rfl (by kernel_rfl) (by kernel_rfl) h hM (by omega) (by omega) (fun _ => by omega)
  · exact PP_no (g' := 4) P1_1_2 rfl rfl (by kernel_rfl) (by kernel_rfl) h hM (by omega) (by omega) (fun _ => by omega)
  · exact PP_no (g' := 3) P1_1_3 rfl rfl (by kernel_rfl) (by kernel_rfl) h hM (by omega) (by omega) (fun _ => by omega)
  · exact PP_no (g' := 2) P1_1_4 rfl rfl (by kernel_rfl) (by kernel_rfl) h hM (by omega) (by omega) (fun _ => by omega)
  · exact PP_no (g' := 1) P1_1_5 rfl rfl (by kernel_rfl) (by kernel_rfl) h hM (by omega) (by omega) (fun hn => absurd c0 (by rw [lt_min _ _ _ (by decide)]; simp [Ev]; omega))
theorem pk1_2 : Pk 1 2 := by
  intro l0 l1 l2 l3 n b0 b1 b2 b3 bn hp n0 M w hM R
  replace R : Rel _ n0 M t9 w := R
  have R1 := up (n := n) R (by kernel_rfl)
  refine (tree_rel hT_b mixed_ok hF_b (by decide) P1_2_r ⟨fun _ => ⟨fun _ => ⟨fun _ => ⟨fun _ => trivial, fun _ => trivial⟩, fun _ => trivial⟩, fun _ => trivial⟩, fun _ => trivial⟩ R1.1 (.cons _ _ _ _ (.p0 64 hp (R1.2 64 hp (by kernel_rfl) hM)) (.cons _ _ _ _ (.i _ _) (.cons _ _ _ _ (.i _ (.v 4)) .nil)))).mono ?_
  rintro e w' ⟨r, rfl, hb, hat⟩
  replace hM := R1.2 64 hp (by kernel_rfl) hM
  clear R R1
  refine ⟨r, rfl, hb, ?_⟩
  rcases hat with (⟨c0, (⟨c1, (⟨c2, (⟨c3, h⟩ | ⟨c3, h⟩)⟩ | ⟨c2, h⟩)⟩ | ⟨c1, h⟩)⟩ | ⟨c0, h⟩)
  · exact PP_fin (g' := 6) P1_2_0 103 104 (.bin .and .u64 (.wrap .u64 (.bin .add .u64 (.c (.ofNat 0)) (.bin .and .u64 (.bin .and .u64 (.v 0) (.c (.ofNat 4294967295))) (.c (.ofNat 4294967295))))) (.c (.ofNat 4294967295))) [(103, 105)] rfl rfl (by kernel_rfl) (by kernel_rfl) (by kernel_rfl) (by kernel_rfl) (by show IE.den (Ev l0 l1 l2 l3 0) _ = sumI l0 l1 l2 l3 1; simp (disch := omega) only [IE.den, den_add, den_and, wrap_u64, and_low, Ev, sumI, Int.ofNat_eq_natCast]; omega) (by kernel_rfl) (by kernel_rfl) h hM (by omega)
  · exact PP_no (g' := 5) P1_2_1 rfl rfl (by kernel_rfl) (by kernel_rfl) h hM (by omega) (by omega) (fun _ => by omega)
  · exact PP_no (g' := 4) P1_2_2 rfl rfl (by kernel_rfl) (by kernel_rfl) h hM (by omega) (by omega) (fun _ => by omega)
  · exact PP_no (g' := 3) P1_2_3 rfl rfl (by kernel_rfl) (by kernel_rfl) h hM (by omega) (by omega) (fun _ => by omega)
  · exact PP_no (g' := 2) P1_2_4 rfl rfl (by kernel_rfl) (by kernel_rfl) h hM (by omega) (by omega) (fun hn => absurd c0 (by rw [lt_min _ _ _ (by decide)]; simp [Ev]; omega))
theorem pk1_3 : Pk 1 3 := by
  intro l0 l1 l2 l3 n b0 b1 b2 b3 bn hp n0 M w hM R
  replace R : Rel _ n0 M t8 w := R
  have R1 := up (n := n) R (by kernel_rfl)
  refine (tree_rel hT_b mixed_ok hF_b (by decide) P1_3_r ⟨fun _ => ⟨fun _ => ⟨fun _ => trivial, fun _ => trivial⟩, fun _ => trivial⟩, fun _ => trivial⟩ R1.1 (.cons _ _ _ _ (.p0 64 hp (R1.2 64 hp (by kernel_rfl) hM)) (.cons _ _ _ _ (.i _ _) (.cons _ _ _ _ (.i _ (.v 4)) .nil)))).mono ?_
  rintro e w' ⟨r, rfl, hb, hat⟩
  replace hM := R1.2 64 hp (by kernel_rfl) hM
  clear R R1
  refine ⟨r, rfl, hb, ?_⟩
  rcases hat with (⟨c0, (⟨c1, (⟨c2, h⟩ | ⟨c2, h⟩)⟩ | ⟨c1, h⟩)⟩ | ⟨c0, h⟩)
  · exact PP_fin (g' := 6) P1_3_0 103 104 (.bin .and .u64 (.wrap .u64 (.bin .add .u64 (.c (.ofNat 0)) (.bin .and .u64 (.bin .and .u64 (.v 0) (.c (.ofNat 4294967295))) (.c (.ofNat 4294967295))))) (.c (.ofNat 4294967295))) [(103, 105)] rfl rfl (by kernel_rfl) (by kernel_rfl) (by kernel_rfl) (by kernel_rfl) (by show IE.den (Ev l0 l1 l2 l3 0) _ = sumI l0 l1 l2 l3 1; simp (disch := omega) only [IE.den, den_add, den_and, wrap_u64, and_low, Ev, sumI, Int.ofNat_eq_natCast]; omega) (by kernel_rfl) (by kernel_rfl) h hM (by omega)
  · exact PP_no (g' := 5) P1_3_1 rfl rfl (by kernel_rfl) (by kernel_rfl) h hM (by omega) (by omega) (fun _ => by omega)
  · exact PP_no (g' := 4) P1_3_2 rfl rfl (by kernel_rfl) (by kernel_rfl) h hM (by omega) (by omega) (fun _ => by omega)
  · exact PP_no (g' := 3) P1_3_3 rfl rfl (by kernel_rfl) (by kernel_rfl) h hM (by omega) (by omega) (fun hn => absurd c0 (by rw [lt_min _ _ _ (by decide)]; simp [Ev]; omega))
theorem pk1_4 : Pk 1 4 := by
  intro l0 l1 l2 l3 n b0 b1 b2 b3 bn hp n0 M w hM R
  replace R : Rel _ n0 M t7 w := R
  have R1 := up (n := n) R (by kernel_rfl)
  refine (tree_rel hT_b mixed_ok hF_b (by decide) P1_4_r ⟨fun _ => ⟨fun _ => trivial, fun _ => trivial⟩, fun _ => trivial⟩ R1.1 (.cons _ _ _ _ (.p0 64 hp (R1.2 64 hp (by kernel_rfl) hM)) (.cons _ _ _ _ (.i _ _) (.cons _ _ _ _ (.i _ (.v 4)) .nil)))).mono ?_
  rintro e w' ⟨r, rfl, hb, hat⟩
  replace hM := R1.2 64 hp (by kernel_rfl) hM
  clear R R1
  refine ⟨r, rfl, hb, ?_⟩
  rcases hat with (⟨c0, (⟨c1, h⟩ | ⟨c1, h⟩)⟩ | ⟨c0, h⟩)
  · exact PP_fin (g' := 6) P1_4_0 103 104 (.bin .and .u64 (.wrap .u64 (.bin .add .u64 (.c (.ofNat 0)) (.bin .and .u64 (.bin .and .u64 (.v 0) (.c (.ofNat 4294967295))) (.c (.ofNat 4294967295))))) (.c (.ofNat 4294967295))) [(103, 105)] rfl rfl (by kernel_rfl) (by kernel_rfl) (by kernel_rfl) (by kernel_rfl) (by show IE.den (Ev l0 l1 l2 l3 0) _ = sumI l0 l1 l2 l3 1; simp (disch := omega) only [IE.den, den_add, den_and, wrap_u64, and_low, Ev, sumI, Int.ofNat_eq_natCast]; omega) (by kernel_rfl) (by kernel_rfl) h hM (by omega)
  · exact PP_no (g' := 5) P1_4_1 rfl rfl (by kernel_rfl) (by kernel_rfl) h hM (by omega) (by omega) (fun _ => by omega)
  · exact PP_no (g' := 4) P1_4_2 rfl rfl (by kernel_rfl) (by kernel_rfl) h hM (by omega) (by omega) (fun hn => absurd c0 (by rw [lt_min _ _ _ (by decide)]; simp [Ev]; omega))
theorem pk1_5 : Pk 1 5 := by
  intro l0 l1 l2 l3 n b0 b1 b2 b3 bn hp n0 M w hM R
  replace R : Rel _ n0 M t6 w := R
  have R1 := up (n := n) R (by kernel_rfl)
  refine (tree_rel hT_b mixed_ok hF_b (by decide) P1_5_r ⟨fun _ => trivial, fun _ => trivial⟩ R1.1 (.cons _ _ _ _ (.p0 64 hp (R1.2 64 hp (by kernel_rfl) hM)) (.cons _ _ _ _ (.i _ _) (.cons _ _ _ _ (.i _ (.v 4)) .nil)))).mono ?_
  rintro e w' ⟨r, rfl, hb, hat⟩
  replace hM := R1.2 64 hp (by kernel_rfl) hM
  clear R R1
  refine ⟨r, rfl, hb, ?_⟩
  rcases hat with (⟨c0, h⟩ | ⟨c0, h⟩)
  · exact PP_fin (g' := 6) P1_5_0 103 104 (.bin .and .u64 (.wrap .u64 (.bin .add .u64 (.c (.ofNat 0)) (.bin .and .u64 (.bin .and .u64 (.v 0) (.c (.ofNat 4294967295))) (.c (.ofNat 4294967295))))) (.c (.ofNat 4294967295))) [(103, 105)] rfl rfl (by kernel_rfl) (by kernel_rfl) (by kernel_rfl) (by kernel_rfl) (by show IE.den (Ev l0 l1 l2 l3 0) _ = sumI l0 l1 l2 l3 1; simp (disch := omega) only [IE.den, den_add, den_and, wrap_u64, and_low, Ev, sumI, Int.ofNat_eq_natCast]; omega) (by kernel_rfl) (by kernel_rfl) h hM (by omega)
  · exact PP_no (g' := 5) P1_5_1 rfl rfl (by kernel_rfl) (by kernel_rfl) h hM (by omega) (by omega) (fun hn => absurd c0 (by rw [lt_min _ _ _ (by decide)]; simp [Ev]; omega))
theorem pk2_0 : Pk 2 0 := by
  intro l0 l1 l2 l3 n b0 b1 b2 b3 bn hp n0 M w hM R
  replace R : Rel _ n0 M t12 w := R
  have R1 := up (n := n) R (by kernel_rfl)
  refine (tree_rel hT_b mixed_ok hF_b (by decide) P2_0_r ⟨fun _ => ⟨fun _ => ⟨fun _ => ⟨fun _ => ⟨fun _ => ⟨fun _ => ⟨fun h => big_no (env := Ev l0 l1 l2 l3 n) (i := 1) b1 h, fun _ => trivial⟩, fun _ => trivial⟩, fun _ => trivial⟩, fun _ => trivial⟩, fun _ => trivial⟩, fun _ => trivial⟩, fun _ => trivial⟩ R1.1 (.cons _ _ _ _ (.p0 64 hp (R1.2 64 hp (by kernel_rfl) hM)) (.cons _ _ _ _ (.i _ _) (.cons _ _ _ _ (.i _ (.v 4)) .nil)))).mono ?_
  rintro e w' ⟨r, rfl, hb, hat⟩
  replace hM := R1.2 64 hp (by kernel_rfl) hM
  clear R R1
  refine ⟨r, rfl, hb, ?_⟩
  rcases hat with (⟨c0, (⟨c1, (⟨c2, (⟨c3, (⟨c4, (⟨c5, (⟨c6, h⟩ | ⟨c6, h⟩)⟩ | ⟨c5, h⟩)⟩ | ⟨c4, h⟩)⟩ | ⟨c3, h⟩)⟩ | ⟨c2, h⟩)⟩ | ⟨c1, h⟩)⟩ | ⟨c0, h⟩)
  · exact h.elim
  · exact PP_fin (g' := 6) P2_0_0 103 104 (.bin .and .u64 (.wrap .u64 (.bin .add .u64 (.c (.ofNat 0)) (.bin .and .u64 (.bin .and .u64 (.v 0) (.c (.ofNat 4294967295))) (.c (.ofNat 4294967295))))) (.c (.ofNat 4294967295))) [(103, 105), (104, 106), (105, 107), (106, 108), (107, 109), (108, 110), (109, 111), (110, 112)] rfl rfl (by kernel_rfl) (by kernel_rfl) (by kernel_rfl) (by kernel_rfl) (by show IE.den (Ev l0 l1 l2 l3 0) _ = sumI l0 l1 l2 l3 1; simp (disch := omega) only [IE.den, den_add, den_and, wrap_u64, and_low, Ev, sumI, Int.ofNat_eq_natCast]; omega) (by kernel_rfl) (by kernel_rfl) h hM (by omega)
  · exact PP_no (g' := 5) P2_0_1 rfl rfl (by kernel_rfl) (by kernel_rfl) h hM (by omega) (by omega) (fun _ => by omega)
  · exact PP_no (g' := 4) P2_0_2 rfl rfl (by kernel_rfl) (by kernel_rfl) h hM (by omega) (by omega) (fun _ => by omega)
  · exact PP_no (g' := 3) P2_0_3 rfl rfl (by kernel_rfl) (by kernel_rfl) h hM (by omega) (by omega) (fun _ => by omega)
  · exact PP_no (g' := 2) P2_0_4 rfl rfl (by kernel_rfl) (by kernel_rfl) h hM (by omega) (by omega) (fun _ => by omega)
  · exact PP_no (g' := 1) P2_0_5 rfl rfl (by kernel_rfl) (by kernel_rfl) h hM (by omega) (by omega) (fun _ => by omega)
  · exact PP_no (g' := 0) P2_0_6 rfl rfl (by kernel_rfl) (by kernel_rfl) h hM (by omega) (by omega) (fun hn => absurd c0 (by rw [lt_min _ _ _ (by decide)]; simp [Ev]; omega))
theorem pk2_1 : Pk 2 1 := by
  intro l0 l1 l2 l3 n b0 b1 b2 b3 bn hp n0 M w hM R
  replace R : Rel _ n0 M t18 w := R
  have R1 := up (n := n) R (by kernel_rfl)
  refine (tree_rel hT_b mixed_ok hF_b (by decide) P2_1_r ⟨fun _ => ⟨fun _ => ⟨fun _ => ⟨fun _ => ⟨fun _ => ⟨fun h => big_no (env := Ev l0 l1 l2 l3 n) (i := 1) b1 h, fun _ => trivial⟩, fun _ => trivial⟩, fun _ => trivial⟩, fun _ => trivial⟩, fun _ => trivial⟩, fun _ => trivial⟩ R1.1 (.cons _ _ _ _ (.p0 64 hp (R1.2 64 hp (by kernel_rfl) hM)) (.cons _ _ _ _ (.i _ _) (.cons _ _ _ _ (.i _ (.v 4)) .nil)))).mono ?_
  rintro e w' ⟨r, rfl, hb, hat⟩
  replace hM := R1.2 64 hp (by kernel_rfl) hM
  clear R R1
  refine ⟨r, rfl, hb, ?_⟩
  rcases hat with (⟨c0, (⟨c1, (⟨c2, (⟨c3, (⟨c4, (⟨c5, h⟩ | ⟨c5, h⟩)⟩ | ⟨c4, h⟩)⟩ | ⟨c3, h⟩)⟩ | ⟨c2, h⟩)⟩ | ⟨c1, h⟩)⟩ | ⟨c0, h⟩)
  · exact h.elim
  · exact PP_fin (g' := 6) P2_1_0 103 104 (.bin .and .u64 (.wrap .u64 (.bin .add .u64 (.c (.ofNat 0)) (.bin .and .u64 (.bin .and .u64 (.v 0) (.c (.ofNat 4294967295))) (.c (.ofNat 4294967295))))) (.c (.ofNat 4294967295))) [(103, 105), (104, 106), (105, 107), (106, 108), (107, 109), (108, 110), (109, 111), (110, 112)] rfl rfl (by kernel_rfl) (by kernel_rfl) (by kernel_rfl) (by kernel_rfl) (by show IE.den (Ev l0 l1 l2 l3 0) _ = sumI l0 l1 l2 l3 1; simp (disch := omega) only [IE.den, den_add, den_and, wrap_u64, and_low, Ev, sumI, Int.ofNat_eq_natCast]; omega) (by kernel_rfl) (by kernel_rfl) h hM (by omega)
  · exact PP_no (g' := 5) P2_1_1 rfl rfl (by kernel_rfl) (by kernel_rfl) h hM (by omega) (by omega) (fun _ => by omega)
  · exact PP_no (g' := 4) P2_1_2 rfl rfl (by kernel_rfl) (by kernel_rfl) h hM (by omega) (by omega) (fun _ => by omega)
  · exact PP_no (g' := 3) P2_1_3 rfl rfl (by kernel_rfl) (by kernel_rfl) h hM (by omega) (by omega) (fun _ => by omega)
  · exact PP_no (g' := 2) P2_1_4 rfl rfl (by kernel_rfl) (by kernel_rfl) h hM (by omega) (by omega) (fun _ => by omega)
  · exact PP_no (g' := 1) P2_1_5 rfl rfl (by kernel_rfl) (by kernel_rfl) h hM (by omega) (by omega) (fun hn => absurd c0 (by rw [lt_min _ _ _ (by decide)]; simp [Ev]; omega))
theorem pk2_2 : Pk 2 2 := by
  intro l0 l1 l2 l3 n b0 b1 b2 b3 bn hp n0 M w hM R
  replace R : Rel _ n0 M t17 w := R
  have R1 := up (n := n) R (by kernel_rfl)
  refine (tree_rel hT_b mixed_ok hF_b (by decide) P2_2_r ⟨fun _ => ⟨fun _ => ⟨fun _ => ⟨fun _ => ⟨fun h => big_no (env := Ev l0 l1 l2 l3 n) (i := 1) b1 h, fun _ => trivial⟩, fun _ => trivial⟩, fun _ => trivial⟩, fun _ => trivial⟩, fun _ => trivial⟩ R1.1 (.cons _ _ _ _ (.p0 64 hp (R1.2 64 hp (by kernel_rfl) hM)) (.cons _ _ _ _ (.i _ _) (.cons _ _ _ _ (.i _ (.v 4)) .nil)))).mono ?_
  rintro e w' ⟨r, rfl, hb, hat⟩
  replace hM := R1.2 64 hp (by kernel_rfl) hM
  clear R R1
  refine ⟨r, rfl, hb, ?_⟩
  rcases hat with (⟨c0, (⟨c1, (⟨c2, (⟨c3, (⟨c4, h⟩ | ⟨c4, h⟩)⟩ | ⟨c3, h⟩)⟩ | ⟨c2, h⟩)⟩ | ⟨c1, h⟩)⟩ | ⟨c0, h⟩)
  · exact h.elim
  · exact PP_fin (g' := 6) P2_2_0 103 104 (.bin .and .u64 (.wrap .u64 (.bin .add .u64 (.c (.ofNat 0)) (.bin .and .u64 (.bin .and .u64 (.v 0) (.c (.ofNat 4294967295))) (.c (.ofNat 4294967295))))) (.c (.ofNat 4294967295))) [(103, 105), (104, 106), (105, 107), (106, 108), (107, 109), (108, 110), (109, 111), (110, 112)] rfl rfl (by kernel_rfl) (by kernel_rfl) (by kernel_rfl) (by kernel_rfl) (by show IE.den (Ev l0 l1 l2 l3 0) _ = sumI l0 l1 l2 l3 1; simp (disch := omega) only [IE.den, den_add, den_and, wrap_u64, and_low, Ev, sumI, Int.ofNat_eq_natCast]; omega) (by kernel_rfl) (by kernel_rfl) h hM (by omega)
  · exact PP_no (g' := 5) P2_2_1 rfl rfl (by kernel_rfl) (by kernel_rfl) h hM (by omega) (by omega) (fun _ => by omega)
  · exact PP_no (g' := 4) P2_2_2 rfl rfl (by kernel_rfl) (by kernel_rfl) h hM (by omega) (by omega) (fun _ => by omega)
  · exact PP_no (g' := 3) P2_2_3 rfl rfl (by kernel_rfl) (by kernel_rfl) h hM (by omega) (by omega) (fun _ => by omega)
  · exact PP_no (g' := 2) P2_2_4 rfl rfl (by kernel_rfl) (by kernel_rfl) h hM (by omega) (by omega) (fun hn => absurd c0 (by rw [lt_min _ _ _ (by decide)]; simp [Ev]; omega))
theorem pk2_3 : Pk 2 3 := by
  intro l0 l1 l2 l3 n b0 b1 b2 b3 bn hp n0 M w hM R
  replace R : Rel _ n0 M t16 w := R
  have R1 := up (n := n) R (by kernel_rfl)
  refine (tree_rel hT_b mixed_ok hF_b (by decide) P2_3_r ⟨fun _ => ⟨fun _ => ⟨fun _ => ⟨fun h => big_no (env := Ev l0 l1 l2 l3 n) (i := 1) b1 h, fun _ => trivial⟩, fun _ => trivial⟩, fun _ => trivial⟩, fun _ => trivial⟩ R1.1 (.cons _ _ _ _ (.p0 64 hp (R1.2 64 hp (by kernel_rfl) hM)) (.cons _ _ _ _ (.i _ _) (.cons _ _ _ _ (.i _ (.v 4)) .nil)))).mono ?_
  rintro e w' ⟨r, rfl, hb, hat⟩
  replace hM := R1.2 64 hp (by kernel_rfl) hM
  clear R R1
  refine ⟨r, rfl, hb, ?_⟩
  rcases hat with (⟨c0, (⟨c1, (⟨c2, (⟨c3, h⟩ | ⟨c3, h⟩)⟩ | ⟨c2, h⟩)⟩ | ⟨c1, h⟩)⟩ | ⟨c0, h⟩)
  · exact h.elim
  · exact PP_fin (g' := 6) P2_3_0 103 104 (.bin .and .u64 (.wrap .u64 (.bin .add .u64 (.c (.ofNat 0)) (.bin .and .u64 (.bin .and .u64 (.v 0) (.c (.ofNat 4294967295))) (.c (.ofNat 4294967295))))) (.c (.ofNat 4294967295))) [(103, 105), (104, 106), (105, 107), (106, 108), (107, 109), (108, 110), (109, 111), (110, 112)] rfl rfl (by kernel_rfl) (by kernel_rfl) (by kernel_rfl) (by kernel_rfl) (by show IE.den (Ev l0 l1 l2 l3 0) _ = sumI l0 l1 l2 l3 1; simp (disch := omega) only [IE.den, den_add, den_and, wrap_u64, and_low, Ev, sumI, Int.ofNat_eq_natCast]; omega) (by kernel_rfl) (by kernel_rfl) h hM (by omega)
  · exact PP_no (g' := 5) P2_3_1 rfl rfl (by kernel_rfl) (by kernel_rfl) h hM (by omega) (by omega) (fun _ => by omega)
  · exact PP_no (g' := 4) P2_3_2 rfl rfl (by kernel_rfl) (by kernel_rfl) h hM (by omega) (by omega) (fun _ => by omega)
  · exact PP_no (g' := 3) P2_3_3 rfl rfl (by kernel_rfl) (by kernel_rfl) h hM (by omega) (by omega) (fun hn => absurd c0 (by rw [lt_min _ _ _ (by decide)]; simp [Ev]; omega))
theorem pk2_4 : Pk 2 4 := by
  intro l0 l1 l2 l3 n b0 b1 b2 b3 bn hp n0 M w hM R
  replace R : Rel _ n0 M t15 w := R
  have R1 := up (n := n) R (by kernel_rfl)
  refine (tree_rel hT_b mixed_ok hF_b (by decide) P2_4_r ⟨fun _ => ⟨fun _ => ⟨fun h => big_no (env := Ev l0 l1 l2 l3 n) (i := 1) b1 h, fun _ => trivial⟩, fun _ => trivial⟩, fun _ => trivial⟩ R1.1 (.cons _ _ _ _ (.p0 64 hp (R1.2 64 hp (by kernel_rfl) hM)) (.cons _ _ _ _ (.i _ _) (.cons _ _ _ _ (.i _ (.v 4)) .nil)))).mono ?_
  rintro e w' ⟨r, rfl, hb, hat⟩
  replace hM := R1.2 64 hp (by kernel_rfl) hM
  clear R R1
  refine ⟨r, rfl, hb, ?_⟩
  rcases hat with (⟨c0, (⟨c1, (⟨c2, h⟩ | ⟨c2, h⟩)⟩ | ⟨c1, h⟩)⟩ | ⟨c0, h⟩)
  · exact h.elim
  · exact PP_fin (g' := 6) P2_4_0 103 104 (.bin .and .u64 (.wrap .u64 (.bin .add .u64 (.c (.ofNat 0)) (.bin .and .u64 (.bin .and .u64 (.v 0) (.c (.ofNat 4294967295))) (.c (.ofNat 4294967295))))) (.c (.ofNat 4294967295))) [(103, 105), (104, 106), (105, 107), (106, 108), (107, 109), (108, 110), (109, 111), (110, 112)] rfl rfl (by kernel_rfl) (by kernel_rfl) (by kernel_rfl) (by kernel_rfl) (by show IE.den (Ev l0 l1 l2 l3 0) _ = sumI l0 l1 l2 l3 1; simp (disch := omega) only [IE.den, den_add, den_and, wrap_u64, and_low, Ev, sumI, Int.ofNat_eq_natCast]; omega) (by kernel_rfl) (by kernel_rfl) h hM (by omega)
  · exact PP_no (g' := 5) P2_4_1 rfl rfl (by kernel_rfl) (by kernel_rfl) h hM (by omega) (by omega) (fun _ => by omega)
  · exact PP_no (g' := 4) P2_4_2 rfl rfl (by kernel_rfl) (by kernel_rfl) h hM (by omega) (by omega) (fun hn => absurd c0 (by rw [lt_min _ _ _ (by decide)]; simp [Ev]; omega))
theorem pk2_5 : Pk 2 5 := by
  intro l0 l1 l2 l3 n b0 b1 b2 b3 bn hp n0 M w hM R
  replace R : Rel _ n0 M t14 w := R
  have R1 := up (n := n) R (by kernel_rfl)
  refine (tree_rel hT_b mixed_ok hF_b (by decide) P2_5_r ⟨fun _ => ⟨fun h => big_no (env := Ev l0 l1 l2 l3 n) (i := 1) b1 h, fun _ => trivial⟩, fun _ => trivial⟩ R1.1 (.cons _ _ _ _ (.p0 64 hp (R1.2 64 hp (by kernel_rfl) hM)) (.cons _ _ _ _ (.i _ _) (.cons _ _ _ _ (.i _ (.v 4)) .nil)))).mono ?_
  rintro e w' ⟨r, rfl, hb, hat⟩
  replace hM := R1.2 64 hp (by kernel_rfl) hM
  clear R R1
  refine ⟨r, rfl, hb, ?_⟩
  rcases hat with (⟨c0, (⟨c1, h⟩ | ⟨c1, h⟩)⟩ | ⟨c0, h⟩)
  · exact h.elim
  · exact PP_fin (g' := 6) P2_5_0 103 104 (.bin .and .u64 (.wrap .u64 (.bin .add .u64 (.c (.ofNat 0)) (.bin .and .u64 (.bin .and .u64 (.v 0) (.c (.ofNat 4294967295))) (.c (.ofNat 4294967295))))) (.c (.ofNat 4294967295))) [(103, 105), (104, 106), (105, 107), (106, 108), (107, 109), (108, 110), (109, 111), (110, 112)] rfl rfl (by kernel_rfl) (by kernel_rfl) (by kernel_rfl) (by kernel_rfl) (by show IE.den (Ev l0 l1 l2 l3 0) _ = sumI l0 l1 l2 l3 1; simp (disch := omega) only [IE.den, den_add, den_and, wrap_u64, and_low, Ev, sumI, Int.ofNat_eq_natCast]; omega) (by kernel_rfl) (by kernel_rfl) h hM (by omega)
  · exact PP_no (g' := 5) P2_5_1 rfl rfl (by kernel_rfl) (by kernel_rfl) h hM (by omega) (by omega) (fun hn => absurd c0 (by rw [lt_min _ _ _ (by decide)]; simp [Ev]; omega))
theorem pk2_6 : Pk 2 6 := by
  intro l0 l1 l2 l3 n b0 b1 b2 b3 bn hp n0 M w hM R
  replace R : Rel _ n0 M t19 w := R
  have R1 := up (n := n) R (by kernel_rfl)
  refine (tree_rel hT_b mixed_ok hF_b (by decide) P2_6_r ⟨fun _ => ⟨fun _ => ⟨fun _ => ⟨fun _ => ⟨fun _ => ⟨fun _ => trivial, fun _ => trivial⟩, fun _ => trivial⟩, fun _ => trivial⟩, fun _ => trivial⟩, fun _ => trivial⟩, fun _ => trivial⟩ R1.1 (.cons _ _ _ _ (.p0 64 hp (R1.2 64 hp (by kernel_rfl) hM)) (.cons _ _ _ _ (.i _ _) (.cons _ _ _ _ (.i _ (.v 4)) .nil)))).mono ?_
  rintro e w' ⟨r, rfl, hb, hat⟩
  replace hM := R1.2 64 hp (by kernel_rfl) hM
  clear R R1
  refine ⟨r, rfl, hb, ?_⟩
  rcases hat with (⟨c0, (⟨c1, (⟨c2, (⟨c3, (⟨c4, (⟨c5, h⟩ | ⟨c5, h⟩)⟩ | ⟨c4, h⟩)⟩ | ⟨c3, h⟩)⟩ | ⟨c2, h⟩)⟩ | ⟨c1, h⟩)⟩ | ⟨c0, h⟩)
  · exact PP_fin (g' := 12) P2_6_0 103 104 (.bin .and .u64 (.wrap .u64 (.bin .add .u64 (.bin .and .u64 (.bin .and .u64 (.wrap .u64 (.bin .add .u64 (.c (.ofNat 0)) (.bin .and .u64 (.bin .and .u64 (.v 0) (.c (.ofNat 4294967295))) (.c (.ofNat 4294967295))))) (.c (.ofNat 4294967295))) (.c (.ofNat 4294967295))) (.bin .and .u64 (.bin .and .u64 (.v 1) (.c (.ofNat 4294967295))) (.c (.ofNat 4294967295))))) (.c (.ofNat 4294967295))) [(103, 105)] rfl rfl (by kernel_rfl) (by kernel_rfl) (by kernel_rfl) (by kernel_rfl) (by show IE.den (Ev l0 l1 l2 l3 0) _ = sumI l0 l1 l2 l3 2; simp (disch := omega) only [IE.den, den_add, den_and, wrap_u64, and_low, Ev, sumI, Int.ofNat_eq_natCast]; omega) (by kernel_rfl) (by kernel_rfl) h hM (by omega)
  · exact PP_no (g' := 11) P2_6_1 rfl rfl (by kernel_rfl) (by kernel_rfl) h hM (by omega) (by omega) (fun _ => by omega)
  · exact PP_no (g' := 10) P2_6_2 rfl rfl (by kernel_rfl) (by kernel_rfl) h hM (by omega) (by omega) (fun _ => by omega)
  · exact PP_no (g' := 9) P2_6_3 rfl rfl (by kernel_rfl) (by kernel_rfl) h hM (by omega) (by omega) (fun _ => by omega)
  · exact PP_no (g' := 8) P2_6_4 rfl rfl (by kernel_rfl) (by kernel_rfl) h hM (by omega) (by omega) (fun _ => by omega)
  · exact PP_no (g' := 7) P2_6_5 rfl rfl (by kernel_rfl) (by kernel_rfl) h hM (by omega) (by omega) (fun _ => by omega)
  · exact PP_no (g' := 6) P2_6_6 rfl rfl (by kernel_rfl) (by kernel_rfl) h hM (by omega) (by omega) (fun hn => absurd c0 (by rw [lt_min _ _ _ (by decide)]; simp [Ev]; omega))
theorem pk2_7 : Pk 2 7 := by
  intro l0 l1 l2 l3 n b0 b1 b2 b3 bn hp n0 M w hM R
  replace R : Rel _ n0 M t25 w := R
  have R1 := up (n := n) R (by kernel_rfl)
  refine (tree_rel hT_b mixed_ok hF_b (by decide) P2_7_r ⟨fun _ => ⟨fun _ => ⟨fun _ => ⟨fun _ => ⟨fun _ => trivial, fun _ => trivial⟩, fun _ => trivial⟩, fun _ => trivial⟩, fun _ => trivial⟩, fun _ => trivial⟩ R1.1 (.cons _ _ _ _ (.p0 64 hp (R1.2 64 hp (by kernel_rfl) hM)) (.cons _ _ _ _ (.i _ _) (.cons _ _ _ _ (.i _ (.v 4)) .nil)))).mono ?_
  rintro e w' ⟨r, rfl, hb, hat⟩
  replace hM := R1.2 64 hp (by kernel_rfl) hM
  clear R R1
  refine ⟨r, rfl, hb, ?_⟩
  rcases hat with (⟨c0, (⟨c1, (⟨c2, (⟨c3, (⟨c4, h⟩ | ⟨c4, h⟩)⟩ | ⟨c3, h⟩)⟩ | ⟨c2, h⟩)⟩ | ⟨c1, h⟩)⟩ | ⟨c0, h⟩)
  · exact PP_fin (g' := 12) P2_7_0 103 104 (.bin .and .u64 (.wrap .u64 (.bin .add .u64 (.bin .and .u64 (.bin .and .u64 (.wrap .u64 (.bin .add .u64 (.c (.ofNat 0)) (.bin .and .u64 (.bin .and .u64 (.v 0) (.c (.ofNat 4294967295))) (.c (.ofNat 4294967295))))) (.c (.ofNat 4294967295))) (.c (.ofNat 4294967295))) (.bin .and .u64 (.bin .and .u64 (.v 1) (.c (.ofNat 4294967295))) (.c (.ofNat 4294967295))))) (.c (.ofNat 4294967295))) [(103, 105)] rfl rfl (by kernel_rfl) (by kernel_rfl) (by kernel_rfl) (by kernel_rfl) (by show IE.den (Ev l0 l1 l2 l3 0) _ = sumI l0 l1 l2 l3 2; simp (disch := omega) only [IE.den, den_add, den_and, wrap_u64, and_low, Ev, sumI, Int.ofNat_eq_natCast]; omega) (by kernel_rfl) (by kernel_rfl) h hM (by omega)
  · exact PP_no (g' := 11) P2_7_1 rfl rfl (by kernel_rfl) (by kernel_rfl) h hM (by omega) (by omega) (fun _ => by omega)
  · exact PP_no (g' := 10) P2_7_2 rfl rfl (by kernel_rfl) (by kernel_rfl) h hM (by omega) (by omega) (fun _ => by omega)
  · exact PP_no (g' := 9) P2_7_3 rfl rfl (by kernel_rfl) (by kernel_rfl) h hM (by omega) (by omega) (fun _ => by omega)
  · exact PP_no (g' := 8) P2_7_4 rfl rfl (by kernel_rfl) (by kernel_rfl) h hM (by omega) (by omega) (fun _ => by omega)
  · exact PP_no (g' := 7) P2_7_5 rfl rfl (by kernel_rfl) (by kernel_rfl) h hM (by omega) (by omega) (fun hn => absurd c0 (by rw [lt_min _ _ _ (by decide)]; simp [Ev]; omega))
theorem pk2_8 : Pk 2 8 := by
  intro l0 l1 l2 l3 n b0 b1 b2 b3 bn hp n0 M w hM R
  replace R : Rel _ n0 M t24 w := R
  have R1 := up (n := n) R (by kernel_rfl)
  refine (tree_rel hT_b mixed_ok hF_b (by decide) P2_8_r ⟨fun _ => ⟨fun _ => ⟨fun _ => ⟨fun _ => trivial, fun _ => trivial⟩, fun _ => trivial⟩, fun _ => trivial⟩, fun _ => trivial⟩ R1.1 (.cons _ _ _ _ (.p0 64 hp (R1.2 64 hp (by kernel_rfl) hM)) (.cons _ _ _ _ (.i _ _) (.cons _ _ _ _ (.i _ (.v 4)) .nil)))).mono ?_
  rintro e w' ⟨r, rfl, hb, hat⟩
  replace hM := R1.2 64 hp (by kernel_rfl) hM
  clear R R1
  refine ⟨r, rfl, hb, ?_⟩
  rcases hat with (⟨c0, (⟨c1, (⟨c2, (⟨c3, h⟩ | ⟨c3, h⟩)⟩ | ⟨c2, h⟩)⟩ | ⟨c1, h⟩)⟩ | ⟨c0, h⟩)
  · exact PP_fin (g' := 12) P2_8_0 103 104 (.bin .and .u64 (.wrap .u64 (.bin .add .u64 (.bin .and .u64 (.bin .and .u64 (.wrap .u64 (.bin .add .u64 (.c (.ofNat 0)) (.bin .and .u64 (.bin .and .u64 (.v 0) (.c (.ofNat 4294967295))) (.c (.ofNat 4294967295))))) (.c (.ofNat 4294967295))) (.c (.ofNat 4294967295))) (.bin .and .u64 (.bin .and .u64 (.v 1) (.c (.ofNat 4294967295))) (.c (.ofNat 4294967295))))) (.c (.ofNat 4294967295))) [(103, 105)] rfl rfl (by kernel_rfl) (by kernel_rfl) (by kernel_rfl) (by kernel_rfl) (by show IE.den (Ev l0 l1 l2 l3 0) _ = sumI l0 l1 l2 l3 2; simp (disch := omega) only [IE.den, den_add, den_and, wrap_u64, and_low, Ev, sumI, Int.ofNat_eq_natCast]; omega) (by kernel_rfl) (by kernel_rfl) h hM (by omega)
  · exact PP_no (g' := 11) P2_8_1 rfl rfl (by kernel_rfl) (by kernel_rfl) h hM (by omega) (by omega) (fun _ => by omega)
  · exact PP_no (g' := 10) P2_8_2 rfl rfl (by kernel_rfl) (by kernel_rfl) h hM (by omega) (by omega) (fun _ => by omega)
  · exact PP_no (g' := 9) P2_8_3 rfl rfl (by kernel_rfl) (by kernel_rfl) h hM (by omega) (by omega) (fun _ => by omega)
  · exact PP_no (g' := 8) P2_8_4 rfl rfl (by kernel_rfl) (by kernel_rfl) h hM (by omega) (by omega) (fun hn => absurd c0 (by rw [lt_min _ _ _ (by decide)]; simp [Ev]; omega))
theorem pk2_9 : Pk 2 9 := by
  intro l0 l1 l2 l3 n b0 b1 b2 b3 bn hp n0 M w hM R
  replace R : Rel _ n0 M t23 w := R
  have R1 := up (n := n) R (by kernel_rfl)
  refine (tree_rel hT_b mixed_ok hF_b (by decide) P2_9_r ⟨fun _ => ⟨fun _ => ⟨fun _ => trivial, fun _ => trivial⟩, fun _ => trivial⟩, fun _ => trivial⟩ R1.1 (.cons _ _ _ _ (.p0 64 hp (R1.2 64 hp (by kernel_rfl) hM)) (.cons _ _ _ _ (.i _ _) (.cons _ _ _ _ (.i _ (.v 4)) .nil)))).mono ?_
  rintro e w' ⟨r, rfl, hb, hat⟩
  replace hM := R1.2 64 hp (by kernel_rfl) hM
  clear R R1
  refine ⟨r, rfl, hb, ?_⟩
  rcases hat with (⟨c0, (⟨c1, (⟨c2, h⟩ | ⟨c2, h⟩)⟩ | ⟨c1, h⟩)⟩ | ⟨c0, h⟩)
  · exact PP_fin (g' := 12) P2_9_0 103 104 (.bin .and .u64 (.wrap .u64 (.bin .add .u64 (.bin .and .u64 (.bin .and .u64 (.wrap .u64 (.bin .add .u64 (.c (.ofNat 0)) (.bin .and .u64 (.bin .and .u64 (.v 0) (.c (.ofNat 4294967295))) (.c (.ofNat 4294967295))))) (.c (.ofNat 4294967295))) (.c (.ofNat 4294967295))) (.bin .and .u64 (.bin .and .u64 (.v 1) (.c (.ofNat 4294967295))) (.c (.ofNat 4294967295))))) (.c (.ofNat 4294967295))) [(103, 105)] rfl rfl (by kernel_rfl) (by kernel_rfl) (by kernel_rfl) (by kernel_rfl) (by show IE.den (Ev l0 l1 l2 l3 0) _ = sumI l0 l1 l2 l3 2; simp (disch := omega) only [IE.den, den_add, den_and, wrap_u64, and_low, Ev, sumI, Int.ofNat_eq_natCast]; omega) (by kernel_rfl) (by kernel_rfl) h hM (by omega)
  · exact PP_no (g' := 11) P2_9_1 rfl rfl (by kernel_rfl) (by kernel_rfl) h hM (by omega) (by omega) (fun _ => by omega)
  · exact PP_no (g' := 10) P2_9_2 rfl rfl (by kernel_rfl) (by kernel_rfl) h hM (by omega) (by omega) (fun _ => by omega)
  · exact PP_no (g' := 9) P2_9_3 rfl rfl (by kernel_rfl) (by kernel_rfl) h hM (by omega) (by omega) (fun hn => absurd c0 (by rw [lt_min _ _ _ (by decide)]; simp [Ev]; omega))
theorem pk2_10 : Pk 2 10 := by
  intro l0 l1 l2 l3 n b0 b1 b2 b3 bn hp n0 M w hM R
  replace R : Rel _ n0 M t22 w := R
  have R1 := up (n := n) R (by kernel_rfl)
  refine (tree_rel hT_b mixed_ok hF_b (by decide) P2_10_r ⟨fun _ => ⟨fun _ => trivial, fun _ => trivial⟩, fun _ => trivial⟩ R1.1 (.cons _ _ _ _ (.p0 64 hp (R1.2 64 hp (by kernel_rfl) hM)) (.cons _ _ _ _ (.i _ _) (.cons _ _ _ _ (.i _ (.v 4)) .nil)))).mono ?_
  rintro e w' ⟨r, rfl, hb, hat⟩
  replace hM := R1.2 64 hp (by kernel_rfl) hM
  clear R R1
  refine ⟨r, rfl, hb, ?_⟩
  rcases hat with (⟨c0, (⟨c1, h⟩ | ⟨c1, h⟩)⟩ | ⟨c0, h⟩)
  · exact PP_fin (g' := 12) P2_10_0 103 104 (.bin .and .u64 (.wrap .u64 (.bin .add .u64 (.bin .and .u64 (.bin .and .u64 (.wrap .u64 (.bin .add .u64 (.c (.ofNat 0)) (.bin .and .u64 (.bin .and .u64 (.v 0) (.c (.ofNat 4294967295))) (.c (.ofNat 4294967295))))) (.c (.ofNat 4294967295))) (.c (.ofNat 4294967295))) (.bin .and .u64 (.bin .and .u64 (.v 1) (.c (.ofNat 4294967295))) (.c (.ofNat 4294967295))))) (.c (.ofNat 4294967295))) [(103, 105)] rfl rfl (by kernel_rfl) (by kernel_rfl) (by kernel_rfl) (by kernel_rfl) (by show IE.den (Ev l0 l1 l2 l3 0) _ = sumI l0 l1 l2 l3 2; simp (disch := omega) only [IE.den, den_add, den_and, wrap_u64, and_low, Ev, sumI, Int.ofNat_eq_natCast]; omega) (by kernel_rfl) (by kernel_rfl) h hM (by omega)
  · exact PP_no (g' := 11) P2_10_1 rfl rfl (by kernel_rfl) (by kernel_rfl) h hM (by omega) (by omega) (fun _ => by omega)
  · exact PP_no (g' := 10) P2_10_2 rfl rfl (by kernel_rfl) (by kernel_rfl) h hM (by omega) (by omega) (fun hn => absurd c0 (by rw [lt_min _ _ _ (by decide)]; simp [Ev]; omega))
theorem pk2_11 : Pk 2 11 := by
  intro l0 l1 l2 l3 n b0 b1 b2 b3 bn hp n0 M w hM R
  replace R : Rel _ n0 M t21 w := R
  have R1 := up (n := n) R (by kernel_rfl)
  refine (tree_rel hT_b mixed_ok hF_b (by decide) P2_11_r ⟨fun _ => trivial, fun _ => trivial⟩ R1.1 (.cons _ _ _ _ (.p0 64 hp (R1.2 64 hp (by kernel_rfl) hM)) (.cons _ _ _ _ (.i _ _) (.cons _ _ _ _ (.i _ (.v 4)) .nil)))).mono ?_
  rintro e w' ⟨r, rfl, hb, hat⟩
  replace hM := R1.2 64 hp (by kernel_rfl) hM
  clear R R1
  refine ⟨r, rfl, hb, ?_⟩
  rcases hat with (⟨c0, h⟩ | ⟨c0, h⟩)
  · exact PP_fin (g' := 12) P2_11_0 103 104 (.bin .and .u64 (.wrap .u64 (.bin .add .u64 (.bin .and .u64 (.bin .and .u64 (.wrap .u64 (.bin .add .u64 (.c (.ofNat 0)) (.bin .and .u64 (.bin .and .u64 (.v 0) (.c (.ofNat 4294967295))) (.c (.ofNat 4294967295))))) (.c (.ofNat 4294967295))) (.c (.ofNat 4294967295))) (.bin .and .u64 (.bin .and .u64 (.v 1) (.c (.ofNat 4294967295))) (.c (.ofNat 4294967295))))) (.c (.ofNat 4294967295))) [(103, 105)] rfl rfl (by kernel_rfl) (by kernel_rfl) (by kernel_rfl) (by kernel_rfl) (by show IE.den (Ev l0 l1 l2 l3 0) _ = sumI l0 l1 l2 l3 2; simp (disch := omega) only [IE.den, den_add, den_and, wrap_u64, and_low, Ev, sumI, Int.ofNat_eq_natCast]; omega) (by kernel_rfl) (by kernel_rfl) h hM (by omega)
  · exact PP_no (g' := 11) P2_11_1 rfl rfl (by kernel_rfl) (by kernel_rfl) h hM (by omega) (by omega) (fun hn => absurd c0 (by rw [lt_min _ _ _ (by decide)]; simp [Ev]; omega))
theorem pk3_0 : Pk 3 0 := by
  intro l0 l1 l2 l3 n b0 b1 b2 b3 bn hp n0 M w hM R
  replace R : Rel _ n0 M t27 w := R
  have R1 := up (n := n) R (by kernel_rfl)
  refine (tree_rel hT_b mixed_ok hF_b (by decide) P3_0_r ⟨fun _ => ⟨fun _ => ⟨fun _ => ⟨fun _ => ⟨fun _ => ⟨fun _ => ⟨fun h => big_no (env := Ev l0 l1 l2 l3 n) (i := 1) b1 h, fun _ => trivial⟩, fun _ => trivial⟩, fun _ => trivial⟩, fun _ => trivial⟩, fun _ => trivial⟩, fun _ => trivial⟩, fun _ => trivial⟩ R1.1 (.cons _ _ _ _ (.p0 64 hp (R1.2 64 hp (by kernel_rfl) hM)) (.cons _ _ _ _ (.i _ _) (.cons _ _ _ _ (.i _ (.v 4)) .nil)))).mono ?_
  rintro e w' ⟨r, rfl, hb, hat⟩
  replace hM := R1.2 64 hp (by kernel_rfl) hM
  clear R R1
  refine ⟨r, rfl, hb, ?_⟩
  rcases hat with (⟨c0, (⟨c1, (⟨c2, (⟨c3, (⟨c4, (⟨c5, (⟨c6, h⟩ | ⟨c6, h⟩)⟩ | ⟨c5, h⟩)⟩ | ⟨c4, h⟩)⟩ | ⟨c3, h⟩)⟩ | ⟨c2, h⟩)⟩ | ⟨c1, h⟩)⟩ | ⟨c0, h⟩)
  · exact h.elim
  · exact PP_fin (g' := 6) P3_0_0 103 104 (.bin .and .u64 (.wrap .u64 (.bin .add .u64 (.c (.ofNat 0)) (.bin .and .u64 (.bin .and .u64 (.v 0) (.c (.ofNat 4294967295))) (.c (.ofNat 4294967295))))) (.c (.ofNat 4294967295))) [(103, 105), (104, 106), (105, 107), (106, 108), (107, 109), (108, 110), (109, 111), (110, 112), (111, 113), (112, 114)] rfl rfl (by kernel_rfl) (by kernel_rfl) (by kernel_rfl) (by kernel_rfl) (by show IE.den (Ev l0 l1 l2 l3 0) _ = sumI l0 l1 l2 l3 1; simp (disch := omega) only [IE.den, den_add, den_and, wrap_u64, and_low, Ev, sumI, Int.ofNat_eq_natCast]; omega) (by kernel_rfl) (by kernel_rfl) h hM (by omega)
  · exact PP_no (g' := 5) P3_0_1 rfl rfl (by kernel_rfl) (by kernel_rfl) h hM (by omega) (by omega) (fun _ => by omega)
  · exact PP_no (g' := 4) P3_0_2 rfl rfl (by kernel_rfl) (by kernel_rfl) h hM (by omega) (by omega) (fun _ => by omega)
  · exact PP_no (g' := 3) P3_0_3 rfl rfl (by kernel_rfl) (by kernel_rfl) h hM (by omega) (by omega) (fun _ => by omega)
  · exact PP_no (g' := 2) P3_0_4 rfl rfl (by kernel_rfl) (by kernel_rfl) h hM (by omega) (by omega) (fun _ => by omega)
  · exact PP_no (g' := 1) P3_0_5 rfl rfl (by kernel_rfl) (by kernel_rfl) h hM (by omega) (by omega) (fun _ => by omega)
  · exact PP_no (g' := 0) P3_0_6 rfl rfl (by kernel_rfl) (by kernel_rfl) h hM (by omega) (by omega) (fun hn => absurd c0 (by rw [lt_min _ _ _ (by decide)]; simp [Ev]; omega))
theorem pk3_1 : Pk 3 1 := by
  intro l0 l1 l2 l3 n b0 b1 b2 b3 bn hp n0 M w hM R
  replace R : Rel _ n0 M t33 w := R
  have R1 := up (n := n) R (by kernel_rfl)
  refine (tree_rel hT_b mixed_ok hF_b (by decide) P3_1_r ⟨fun _ => ⟨fun _ => ⟨fun _ => ⟨fun _ => ⟨fun _ => ⟨fun h => big_no (env := Ev l0 l1 l2 l3 n) (i := 1) b1 h, fun _ => trivial⟩, fun _ => trivial⟩, fun _ => trivial⟩, fun _ => trivial⟩, fun _ => trivial⟩, fun _ => trivial⟩ R1.1 (.cons _ _ _ _ (.p0 64 hp (R1.2 64 hp (by kernel_rfl) hM)) (.cons _ _ _ _ (.i _ _) (.cons _ _ _ _ (.i _ (.v 4)) .nil)))).mono ?_
  rintro e w' ⟨r, rfl, hb, hat⟩
  replace hM := R1.2 64 hp (by kernel_rfl) hM
  clear R R1
  refine ⟨r, rfl, hb, ?_⟩
  rcases hat with (⟨c0, (⟨c1, (⟨c2, (⟨c3, (⟨c4, (⟨c5, h⟩ | ⟨c5, h⟩)⟩ | ⟨c4, h⟩)⟩ | ⟨c3, h⟩)⟩ | ⟨c2, h⟩)⟩ | ⟨c1, h⟩)⟩ | ⟨c0, h⟩)
  · exact h.elim
  · exact PP_fin (g' := 6) P3_1_0 103 104 (.bin .and .u64 (.wrap .u64 (.bin .add .u64 (.c (.ofNat 0)) (.bin .and .u64 (.bin .and .u64 (.v 0) (.c (.ofNat 4294967295))) (.c (.ofNat 4294967295))))) (.c (.ofNat 4294967295))) [(103, 105), (104, 106), (105, 107), (106, 108), (107, 109), (108, 110), (109, 111), (110, 112), (111, 113), (112, 114)] rfl rfl (by kernel_rfl) (by kernel_rfl) (by kernel_rfl) (by kernel_rfl) (by show IE.den (Ev l0 l1 l2 l3 0) _ = sumI l0 l1 l2 l3 1; simp (disch := omega) only [IE.den, den_add, den_and, wrap_u64, and_low, Ev, sumI, Int.ofNat_eq_natCast]; omega) (by kernel_rfl) (by kernel_rfl) h hM (by omega)
  · exact PP_no (g' := 5) P3_1_1 rfl rfl (by kernel_rfl) (by kernel_rfl) h hM (by omega) (by omega) (fun _ => by omega)
  · exact PP_no (g' := 4) P3_1_2 rfl rfl (by kernel_rfl) (by kernel_rfl) h hM (by omega) (by omega) (fun _ => by omega)
  · exact PP_no (g' := 3) P3_1_3 rfl rfl (by kernel_rfl) (by kernel_rfl) h hM (by omega) (by omega) (fun _ => by omega)
  · exact PP_no (g' := 2) P3_1_4 rfl rfl (by kernel_rfl) (by kernel_rfl) h hM (by omega) (by omega) (fun _ => by omega)
  · exact PP_no (g' := 1) P3_1_5 rfl rfl (by kernel_rfl) (by kernel_rfl) h hM (by omega) (by omega) (fun hn => absurd c0 (by rw [lt_min _ _ _ (by decide)]; simp [Ev]; omega))
theorem pk3_2 : Pk 3 2 := by
  intro l0 l1 l2 l3 n b0 b1 b2 b3 bn hp n0 M w hM R
  replace R : Rel _ n0 M t32 w := R
  have R1 := up (n := n) R (by kernel_rfl)
  refine (tree_rel hT_b mixed_ok hF_b (by decide) P3_2_r ⟨fun _ => ⟨fun _ => ⟨fun _ => ⟨fun _ => ⟨fun h => big_no (env := Ev l0 l1 l2 l3 n) (i := 1) b1 h, fun _ => trivial⟩, fun _ => trivial⟩, fun _ => trivial⟩, fun _ => trivial⟩, fun _ => trivial⟩ R1.1 (.cons _ _ _ _ (.p0 64 hp (R1.2 64 hp (by kernel_rfl) hM)) (.cons _ _ _ _ (.i _ _) (.cons _ _ _ _ (.i _ (.v 4)) .nil)))).mono ?_
  rintro e w' ⟨r, rfl, hb, hat⟩
  replace hM := R1.2 64 hp (by kernel_rfl) hM
  clear R R1
  refine ⟨r, rfl, hb, ?_⟩
  rcases hat with (⟨c0, (⟨c1, (⟨c2, (⟨c3, (⟨c4, h⟩ | ⟨c4, h⟩)⟩ | ⟨c3, h⟩)⟩ | ⟨c2, h⟩)⟩ | ⟨c1, h⟩)⟩ | ⟨c0, h⟩)
  · exact h.elim
  · exact PP_fin (g' := 6) P3_2_0 103 104 (.bin .and .u64 (.wrap .u64 (.bin .add .u64 (.c (.ofNat 0)) (.bin .and .u64 (.bin .and .u64 (.v 0) (.c (.ofNat 4294967295))) (.c (.ofNat 4294967295))))) (.c (.ofNat 4294967295))) [(103, 105), (104, 106), (105, 107), (106, 108), (107, 109), (108, 110), (109, 111), (110, 112), (111, 113), (112, 114)] rfl rfl (by kernel_rfl) (by kernel_rfl) (by kernel_rfl) (by kernel_rfl) (by show IE.den (Ev l0 l1 l2 l3 0) _ = sumI l0 l1 l2 l3 1; simp (disch := omega) only [IE.den, den_add, den_and, wrap_u64, and_low, Ev, sumI, Int.ofNat_eq_natCast]; omega) (by kernel_rfl) (by kernel_rfl) h hM (by omega)
  · exact PP_no (g' := 5) P3_2_1 rfl rfl (by kernel_rfl) (by kernel_rfl) h hM (by omega) (by omega) (fun _ => by omega)
  · exact PP_no (g' := 4) P3_2_2 rfl rfl (by kernel_rfl) (by kernel_rfl) h hM (by omega) (by omega) (fun _ => by omega)
  · exact PP_no (g' := 3) P3_2_3 rfl rfl (by kernel_rfl) (by kernel_rfl) h hM (by omega) (by omega) (fun _ => by omega)
  · exact PP_no (g' := 2) P3_2_4 rfl rfl (by kernel_rfl) (by kernel_rfl) h hM (by omega) (by omega) (fun hn => absurd c0 (by rw [lt_min _ _ _ (by decide)]; simp [Ev]; omega))
theorem pk3_3 : Pk 3 3 := by
  intro l0 l1 l2 l3 n b0 b1 b2 b3 bn hp n0 M w hM R
  replace R : Rel _ n0 M t31 w := R
  have R1 := up (n := n) R (by kernel_rfl)
  refine (tree_rel hT_b mixed_ok hF_b (by decide) P3_3_r ⟨fun _ => ⟨fun _ => ⟨fun _ => ⟨fun h => big_no (env := Ev l0 l1 l2 l3 n) (i := 1) b1 h, fun _ => trivial⟩, fun _ => trivial⟩, fun _ => trivial⟩, fun _ => trivial⟩ R1.1 (.cons _ _ _ _ (.p0 64 hp (R1.2 64 hp (by kernel_rfl) hM)) (.cons _ _ _ _ (.i _ _) (.cons _ _ _ _ (.i _ (.v 4)) .nil)))).mono ?_
  rintro e w' ⟨r, rfl, hb, hat⟩
  replace hM := R1.2 64 hp (by kernel_rfl) hM
  clear R R1
  refine ⟨r, rfl, hb, ?_⟩
  rcases hat with (⟨c0, (⟨c1, (⟨c2, (⟨c3, h⟩ | ⟨c3, h⟩)⟩ | ⟨c2, h⟩)⟩ | ⟨c1, h⟩)⟩ | ⟨c0, h⟩)
  · exact h.elim
  · exact PP_fin (g' := 6) P3_3_0 103 104 (.bin .and .u64 (.wrap .u64 (.bin .add .u64 (.c (.ofNat 0)) (.bin .and .u64 (.bin .and .u64 (.v 0) (.c (.ofNat 4294967295))) (.c (.ofNat 4294967295))))) (.c (.ofNat 4294967295))) [(103, 105), (104, 106), (105, 107), (106, 108), (107, 109), (108, 110), (109, 111), (110, 112), (111, 113), (112, 114)] rfl rfl (by kernel_rfl) (by kernel_rfl) (by kernel_rfl) (by kernel_rfl) (by show IE.den (Ev l0 l1 l2 l3 0) _ = sumI l0 l1 l2 l3 1; simp (disch := omega) only [IE.den, den_add, den_and, wrap_u64, and_low, Ev, sumI, Int.ofNat_eq_natCast]; omega) (by kernel_rfl) (by kernel_rfl) h hM (by omega)
  · exact PP_no (g' := 5) P3_3_1 rfl rfl (by kernel_rfl) (by kernel_rfl) h hM (by omega) (by omega) (fun _ => by omega)
  · exact PP_no (g' := 4) P3_3_2 rfl rfl (by kernel_rfl) (by kernel_rfl) h hM (by omega) (by omega) (fun _ => by omega)
  · exact PP_no (g' := 3) P3_3_3 rfl rfl (by kernel_rfl) (by kernel_rfl) h hM (by omega) (by omega) (fun hn => absurd c0 (by rw [lt_min _ _ _ (by decide)]; simp [Ev]; omega))
theorem pk3_4 : Pk 3 4 := by
  intro l0 l1 l2 l3 n b0 b1 b2 b3 bn hp n0 M w hM R
  replace R : Rel _ n0 M t30 w := R
  have R1 := up (n := n) R (by kernel_rfl)
  refine (tree_rel hT_b mixed_ok hF_b (by decide) P3_4_r ⟨fun _ => ⟨fun _ => ⟨fun h => big_no (env := Ev l0 l1 l2 l3 n) (i := 1) b1 h, fun _ => trivial⟩, fun _ => trivial⟩, fun _ => trivial⟩ R1.1 (.cons _ _ _ _ (.p0 64 hp (R1.2 64 hp (by kernel_rfl) hM)) (.cons _ _ _ _ (.i _ _) (.cons _ _ _ _ (.i _ (.v 4)) .nil)))).mono ?_
  rintro e w' ⟨r, rfl, hb, hat⟩
  replace hM := R1.2 64 hp (by kernel_rfl) hM
  clear R R1
  refine ⟨r, rfl, hb, ?_⟩
  rcases hat with (⟨c0, (⟨c1, (⟨c2, h⟩ | ⟨c2, h⟩)⟩ | ⟨c1, h⟩)⟩ | ⟨c0, h⟩)
  · exact h.elim
  · exact PP_fin (g' := 6) P3_4_0 103 104 (.bin .and .u64 (.wrap .u64 (.bin .add .u64 (.c (.ofNat 0)) (.bin .and .u64 (.bin .and .u64 (.v 0) (.c (.ofNat 4294967295))) (.c (.ofNat 4294967295))))) (.c (.ofNat 4294967295))) [(103, 105), (104, 106), (105, 107), (106, 108), (107, 109), (108, 110), (109, 111), (110, 112), (111, 113), (112, 114)] rfl rfl (by kernel_rfl) (by kernel_rfl) (by kernel_rfl) (by kernel_rfl) (by show IE.den (Ev l0 l1 l2 l3 0) _ = sumI l0 l1 l2 l3 1; simp (disch := omega) only [IE.den, den_add, den_and, wrap_u64, and_low, Ev, sumI, Int.ofNat_eq_natCast]; omega) (by kernel_rfl) (by kernel_rfl) h hM (by omega)
  · exact PP_no (g' := 5) P3_4_1 rfl rfl (by kernel_rfl) (by kernel_rfl) h hM (by omega) (by omega) (fun _ => by omega)
  · exact PP_no (g' := 4) P3_4_2 rfl rfl (by kernel_rfl) (by kernel_rfl) h hM (by omega) (by omega) (fun hn => absurd c0 (by rw [lt_min _ _ _ (by decide)]; simp [Ev]; omega))
theorem pk3_5 : Pk 3 5 := by
  intro l0 l1 l2 l3 n b0 b1 b2 b3 bn hp n0 M w hM R
  replace R : Rel _ n0 M t29 w := R
  have R1 := up (n := n) R (by kernel_rfl)
  refine (tree_rel hT_b mixed_ok hF_b (by decide) P3_5_r ⟨fun _ => ⟨fun h => big_no (env := Ev l0 l1 l2 l3 n) (i := 1) b1 h, fun _ => trivial⟩, fun _ => trivial⟩ R1.1 (.cons _ _ _ _ (.p0 64 hp (R1.2 64 hp (by kernel_rfl) hM)) (.cons _ _ _ _ (.i _ _) (.cons _ _ _ _ (.i _ (.v 4)) .nil)))).mono ?_
  rintro e w' ⟨r, rfl, hb, hat⟩
  replace hM := R1.2 64 hp (by kernel_rfl) hM
  clear R R1
  refine ⟨r, rfl, hb, ?_⟩
  rcases hat with (⟨c0, (⟨c1, h⟩ | ⟨c1, h⟩)⟩ | ⟨c0, h⟩)
  · exact h.elim
  · exact PP_fin (g' := 6) P3_5_0 103 104 (.bin .and .u64 (.wrap .u64 (.bin .add .u64 (.c (.ofNat 0)) (.bin .and .u64 (.bin .and .u64 (.v 0) (.c (.ofNat 4294967295))) (.c (.ofNat 4294967295))))) (.c (.ofNat 4294967295))) [(103, 105), (104, 106), (105, 107), (106, 108), (107, 109), (108, 110), (109, 111), (110, 112), (111, 113), (112, 114)] rfl rfl (by kernel_rfl) (by kernel_rfl) (by kernel_rfl) (by kernel_rfl) (by show IE.den (Ev l0 l1 l2 l3 0) _ = sumI l0 l1 l2 l3 1; simp (disch := omega) only [IE.den, den_add, den_and, wrap_u64, and_low, Ev, sumI, Int.ofNat_eq_natCast]; omega) (by kernel_rfl) (by kernel_rfl) h hM (by omega)
  · exact PP_no (g' := 5) P3_5_1 rfl rfl (by kernel_rfl) (by kernel_rfl) h hM (by omega) (by omega) (fun hn => absurd c0 (by rw [lt_min _ _ _ (by decide)]; simp [Ev]; omega))
theorem pk3_6 : Pk 3 6 := by
  intro l0 l1 l2 l3 n b0 b1 b2 b3 bn hp n0 M w hM R
  replace R : Rel _ n0 M t34 w := R
  have R1 := up (n := n) R (by kernel_rfl)
  refine (tree_rel hT_b mixed_ok hF_b (by decide) P3_6_r ⟨fun _ => ⟨fun _ => ⟨fun _ => ⟨fun _ => ⟨fun _ => ⟨fun _ => ⟨fun h => big_no (env := Ev l0 l1 l2 l3 n) (i := 2) b2 h, fun _ => trivial⟩, fun _ => trivial⟩, fun _ => trivial⟩, fun _ => trivial⟩, fun _ => trivial⟩, fun _ => trivial⟩, fun _ => trivial⟩ R1.1 (.cons _ _ _ _ (.p0 64 hp (R1.2 64 hp (by kernel_rfl) hM)) (.cons _ _ _ _ (.i _ _) (.cons _ _ _ _ (.i _ (.v 4)) .nil)))).mono ?_
  rintro e w' ⟨r, rfl, hb, hat⟩
  replace hM := R1.2 64 hp (by kernel_rfl) hM
  clear R R1
  refine ⟨r, rfl, hb, ?_⟩
  rcases hat with (⟨c0, (⟨c1, (⟨c2, (⟨c3, (⟨c4, (⟨c5, (⟨c6, h⟩ | ⟨c6, h⟩)⟩ | ⟨c5, h⟩)⟩ | ⟨c4, h⟩)⟩ | ⟨c3, h⟩)⟩ | ⟨c2, h⟩)⟩ | ⟨c1, h⟩)⟩ | ⟨c0, h⟩)
  · exact h.elim
  · exact PP_fin (g' := 12) P3_6_0 103 104 (.bin .and .u64 (.wrap .u64 (.bin .add .u64 (.bin .and .u64 (.bin .and .u64 (.wrap .u64 (.bin .add .u64 (.c (.ofNat 0)) (.bin .and .u64 (.bin .and .u64 (.v 0) (.c (.ofNat 4294967295))) (.c (.ofNat 4294967295))))) (.c (.ofNat 4294967295))) (.c (.ofNat 4294967295))) (.bin .and .u64 (.bin .and .u64 (.v 1) (.c (.ofNat 4294967295))) (.c (.ofNat 4294967295))))) (.c (.ofNat 4294967295))) [(103, 105), (104, 106), (105, 107), (106, 108), (107, 109), (108, 110), (109, 111), (110, 112)] rfl rfl (by kernel_rfl) (by kernel_rfl) (by kernel_rfl) (by kernel_rfl) (by show IE.den (Ev l0 l1 l2 l3 0) _ = sumI l0 l1 l2 l3 2; simp (disch := omega) only [IE.den, den_add, den_and, wrap_u64, and_low, Ev, sumI, Int.ofNat_eq_natCast]; omega) (by kernel_rfl) (by kernel_rfl) h hM (by omega)
  · exact PP_no (g' := 11) P3_6_1 rfl rfl (by kernel_rfl) (by kernel_rfl) h hM (by omega) (by omega) (fun _ => by omega)
  · exact PP_no (g' := 10) P3_6_2 rfl rfl (by kernel_rfl) (by kernel_rfl) h hM (by omega) (by omega) (fun _ => by omega)
  · exact PP_no (g' := 9) P3_6_3 rfl rfl (by kernel_rfl) (by kernel_rfl) h hM (by omega) (by omega) (fun _ => by omega)
  · exact PP_no (g' := 8) P3_6_4 rfl rfl (by kernel_rfl) (by kernel_rfl) h hM (by omega) (by omega) (fun _ => by omega)
  · exact PP_no (g' := 7) P3_6_5 rfl rfl (by kernel_rfl) (by kernel_rfl) h hM (by omega) (by omega) (fun _ => by omega)
  · exact PP_no (g' := 6) P3_6_6 rfl rfl (by kernel_rfl) (by kernel_rfl) h hM (by omega) (by omega) (fun hn => absurd c0 (by rw [lt_min _ _ _ (by decide)]; simp [Ev]; omega))
theorem pk3_7 : Pk 3 7 := by
  intro l0 l1 l2 l3 n b0 b1 b2 b3 bn hp n0 M w hM R
  replace R : Rel _ n0 M t40 w := R
  have R1 := up (n := n) R (by kernel_rfl)
  refine (tree_rel hT_b mixed_ok hF_b (by decide) P3_7_r ⟨fun _ => ⟨fun _ => ⟨fun _ => ⟨fun _ => ⟨fun _ => ⟨fun h => big_no (env := Ev l0 l1 l2 l3 n) (i := 2) b2 h, fun _ => trivial⟩, fun _ => trivial⟩, fun _ => trivial⟩, fun _ => trivial⟩, fun _ => trivial⟩, fun _ => trivial⟩ R1.1 (.cons _ _ _ _ (.p0 64 hp (R1.2 64 hp (by kernel_rfl) hM)) (.cons _ _ _ _ (.i _ _) (.cons _ _ _ _ (.i _ (.v 4)) .nil)))).mono ?_
  rintro e w' ⟨r, rfl, hb, hat⟩
  replace hM := R1.2 64 hp (by kernel_rfl) hM
  clear R R1
  refine ⟨r, rfl, hb, ?_⟩
  rcases hat with (⟨c0, (⟨c1, (⟨c2, (⟨c3, (⟨c4, (⟨c5, h⟩ | ⟨c5, h⟩)⟩ | ⟨c4, h⟩)⟩ | ⟨c3, h⟩)⟩ | ⟨c2, h⟩)⟩ | ⟨c1, h⟩)⟩ | ⟨c0, h⟩)
  · exact h.elim
  · exact PP_fin (g' := 12) P3_7_0 103 104 (.bin .and .u64 (.wrap .u64 (.bin .add .u64 (.bin .and .u64 (.bin .and .u64 (.wrap .u64 (.bin .add .u64 (.c (.ofNat 0)) (.bin .and .u64 (.bin .and .u64 (.v 0) (.c (.ofNat 4294967295))) (.c (.ofNat 4294967295))))) (.c (.ofNat 4294967295))) (.c (.ofNat 4294967295))) (.bin .and .u64 (.bin .and .u64 (.v 1) (.c (.ofNat 4294967295))) (.c (.ofNat 4294967295))))) (.c (.ofNat 4294967295))) [(103, 105), (104, 106), (105, 107), (106, 108), (107, 109), (108, 110), (109, 111), (110, 112)] rfl rfl (by kernel_rfl) (by kernel_rfl) (by kernel_rfl) (by kernel_rfl) (by show IE.den (Ev l0 l1 l2 l3 0) _ = sumI l0 l1 l2 l3 2; simp (disch := omega) only [IE.den, den_add, den_and, wrap_u64, and_low, Ev, sumI, Int.ofNat_eq_natCast]; omega) (by kernel_rfl) (by kernel_rfl) h hM (by omega)
  · exact PP_no (g' := 11) P3_7_1 rfl rfl (by kernel_rfl) (by kernel_rfl) h hM (by omega) (by omega) (fun _ => by omega)
  · exact PP_no (g' := 10) P3_7_2 rfl rfl (by kernel_rfl) (by kernel_rfl) h hM (by omega) (by omega) (fun _ => by omega)
  · exact PP_no (g' := 9) P3_7_3 rfl rfl (by kernel_rfl) (by kernel_rfl) h hM (by omega) (by omega) (fun _ => by omega)
  · exact PP_no (g' := 8) P3_7_4 rfl rfl (by kernel_rfl) (by kernel_rfl) h hM (by omega) (by omega) (fun _ => by omega)
  · exact PP_no (g' := 7) P3_7_5 rfl rfl (by kernel_rfl) (by kernel_rfl) h hM (by omega) (by omega) (fun hn => absurd c0 (by rw [lt_min _ _ _ (by decide)]; simp [Ev]; omega))
theorem pk3_8 : Pk 3 8 := by
  intro l0 l1 l2 l3 n b0 b1 b2 b3 bn hp n0 M w hM R
  replace R : Rel _ n0 M t39 w := R
  have R1 := up (n := n) R (by kernel_rfl)
  refine (tree_rel hT_b mixed_ok hF_b (by decide) P3_8_r ⟨fun _ => ⟨fun _ => ⟨fun _ => ⟨fun _ => ⟨fun h => big_no (env := Ev l0 l1 l2 l3 n) (i := 2) b2 h, fun _ => trivial⟩, fun _ => trivial⟩, fun _ => trivial⟩, fun _ => trivial⟩, fun _ => trivial⟩ R1.1 (.cons _ _ _ _ (.p0 64 hp (R1.2 64 hp (by kernel_rfl) hM)) (.cons _ _ _ _ (.i _ _) (.cons _ _ _ _ (.i _ (.v 4)) .nil)))).mono ?_
  rintro e w' ⟨r, rfl, hb, hat⟩
  replace hM := R1.2 64 hp (by kernel_rfl) hM
  clear R R1
  refine ⟨r, rfl, hb, ?_⟩
  rcases hat with (⟨c0, (⟨c1, (⟨c2, (⟨c3, (⟨c4, h⟩ | ⟨c4, h⟩)⟩ | ⟨c3, h⟩)⟩ | ⟨c2, h⟩)⟩ | ⟨c1, h⟩)⟩ | ⟨c0, h⟩)
  · exact h.elim
  · exact PP_fin (g' := 12) P3_8_0 103 104 (.bin .and .u64 (.wrap .u64 (.bin .add .u64 (.bin .and .u64 (.bin .and .u64 (.wrap .u64 (.bin .add .u64 (.c (.ofNat 0)) (.bin .and .u64 (.bin .and .u64 (.v 0) (.c (.ofNat 4294967295))) (.c (.ofNat 4294967295))))) (.c (.ofNat 4294967295))) (.c (.ofNat 4294967295))) (.bin .and .u64 (.bin .and .u64 (.v 1) (.c (.ofNat 4294967295))) (.c (.ofNat 4294967295))))) (.c (.ofNat 4294967295))) [(103, 105), (104, 106), (105, 107), (106, 108), (107, 109), (108, 110), (109, 111), (110, 112)] rfl rfl (by kernel_rfl) (by kernel_rfl) (by kernel_rfl) (by kernel_rfl) (by show IE.den (Ev l0 l1 l2 l3 0) _ = sumI l0 l1 l2 l3 2; simp (disch := omega) only [IE.den, den_add, den_and, wrap_u64, and_low, Ev, sumI, Int.ofNat_eq_natCast]; omega) (by kernel_rfl) (by kernel_rfl) h hM (by omega)
  · exact PP_no (g' := 11) P3_8_1 rfl rfl (by kernel_rfl) (by kernel_rfl) h hM (by omega) (by omega) (fun _ => by omega)
  · exact PP_no (g' := 10) P3_8_2 rfl rfl (by kernel_rfl) (by kernel_rfl) h hM (by omega) (by omega) (fun _ => by omega)
  · exact PP_no (g' := 9) P3_8_3 rfl rfl (by kernel_rfl) (by kernel_rfl) h hM (by omega) (by omega) (fun _ => by omega)
  · exact PP_no (g' := 8) P3_8_4 rfl rfl (by kernel_rfl) (by kernel_rfl) h hM (by omega) (by omega) (fun hn => absurd c0 (by rw [lt_min _ _ _ (by decide)]; simp [Ev]; omega))
theorem pk3_9 : Pk 3 9 := by
  intro l0 l1 l2 l3 n b0 b1 b2 b3 bn hp n0 M w hM R
  replace R : Rel _ n0 M t38 w := R
  have R1 := up (n := n) R (by kernel_rfl)
  refine (tree_rel hT_b mixed_ok hF_b (by decide) P3_9_r ⟨fun _ => ⟨fun _ => ⟨fun _ => ⟨fun h => big_no (env := Ev l0 l1 l2 l3 n) (i := 2) b2 h, fun _ => trivial⟩, fun _ => trivial⟩, fun _ => trivial⟩, fun _ => trivial⟩ R1.1 (.cons _ _ _ _ (.p0 64 hp (R1.2 64 hp (by kernel_rfl) hM)) (.cons _ _ _ _ (.i _ _) (.cons _ _ _ _ (.i _ (.v 4)) .nil)))).mono ?_
  rintro e w' ⟨r, rfl, hb, hat⟩
  replace hM := R1.2 64 hp (by kernel_rfl) hM
  clear R R1
  refine ⟨r, rfl, hb, ?_⟩
  rcases hat with (⟨c0, (⟨c1, (⟨c2, (⟨c3, h⟩ | ⟨c3, h⟩)⟩ | ⟨c2, h⟩)⟩ | ⟨c1, h⟩)⟩ | ⟨c0, h⟩)
  · exact h.elim
  · exact PP_fin (g' := 12) P3_9_0 103 104 (.bin .and .u64 (.wrap .u64 (.bin .add .u64 (.bin .and .u64 (.bin .and .u64 (.wrap .u64 (.bin .add .u64 (.c (.ofNat 0)) (.bin .and .u64 (.bin .and .u64 (.v 0) (.c (.ofNat 4294967295))) (.c (.ofNat 4294967295))))) (.c (.ofNat 4294967295))) (.c (.ofNat 4294967295))) (.bin .and .u64 (.bin .and .u64 (.v 1) (.c (.ofNat 4294967295))) (.c (.ofNat 4294967295))))) (.c (.ofNat 4294967295))) [(103, 105), (104, 106), (105, 107), (106, 108), (107, 109), (108, 110), (109, 111), (110, 112)] rfl rfl (by kernel_rfl) (by kernel_rfl) (by kernel_rfl) (by kernel_rfl) (by show IE.den (Ev l0 l1 l2 l3 0) _ = sumI l0 l1 l2 l3 2; simp (disch := omega) only [IE.den, den_add, den_and, wrap_u64, and_low, Ev, sumI, Int.ofNat_eq_natCast]; omega) (by kernel_rfl) (by kernel_rfl) h hM (by omega)
  · exact PP_no (g' := 11) P3_9_1 rfl rfl (by kernel_rfl) (by kernel_rfl) h hM (by omega) (by omega) (fun _ => by omega)
  · exact PP_no (g' := 10) P3_9_2 rfl rfl (by kernel_rfl) (by kernel_rfl) h hM (by omega) (by omega) (fun _ => by omega)
  · exact PP_no (g' := 9) P3_9_3 rfl rfl (by kernel_rfl) (by kernel_rfl) h hM (by omega) (by omega) (fun hn => absurd c0 (by rw [lt_min _ _ _ (by decide)]; simp [Ev]; omega))
theorem pk3_10 : Pk 3 10 := by
  intro l0 l1 l2 l3 n b0 b1 b2 b3 bn hp n0 M w hM R
  replace R : Rel _ n0 M t37 w := R
  have R1 := up (n := n) R (by kernel_rfl)
  refine (tree_rel hT_b mixed_ok hF_b (by decide) P3_10_r ⟨fun _ => ⟨fun _ => ⟨fun h => big_no (env := Ev l0 l1 l2 l3 n) (i := 2) b2 h, fun _ => trivial⟩, fun _ => trivial⟩, fun _ => trivial⟩ R1.1 (.cons _ _ _ _ (.p0 64 hp (R1.2 64 hp (by kernel_rfl) hM)) (.cons _ _ _ _ (.i _ _) (.cons _ _ _ _ (.i _ (.v 4)) .nil)))).mono ?_
  rintro e w' ⟨r, rfl, hb, hat⟩
  replace hM := R1.2 64 hp (by kernel_rfl) hM
  clear R R1
  refine ⟨r, rfl, hb, ?_⟩
  rcases hat with (⟨c0, (⟨c1, (⟨c2, h⟩ | ⟨c2, h⟩)⟩ | ⟨c1, h⟩)⟩ | ⟨c0, h⟩)
  · exact h.elim
  · exact PP_fin (g' := 12) P3_10_0 103 104 (.bin .and .u64 (.wrap .u64 (.bin .add .u64 (.bin .and .u64 (.bin .and .u64 (.wrap .u64 (.bin .add .u64 (.c (.ofNat 0)) (.bin .and .u64 (.bin .and .u64 (.v 0) (.c (.ofNat 4294967295))) (.c (.ofNat 4294967295))))) (.c (.ofNat 4294967295))) (.c (.ofNat 4294967295))) (.bin .and .u64 (.bin .and .u64 (.v 1) (.c (.ofNat 4294967295))) (.c (.ofNat 4294967295))))) (.c (.ofNat 4294967295))) [(103, 105), (104, 106), (105, 107), (106, 108), (107, 109), (108, 110), (109, 111), (110, 112)] rfl rfl (by kernel_rfl) (by kernel_rfl) (by kernel_rfl) (by kernel_rfl) (by show IE.den (Ev l0 l1 l2 l3 0) _ = sumI l0 l1 l2 l3 2; simp (disch := omega) only [IE.den, den_add, den_and, wrap_u64, and_low, Ev, sumI, Int.ofNat_eq_natCast]; omega) (by kernel_rfl) (by kernel_rfl) h hM (by omega)
  · exact PP_no (g' := 11) P3_10_1 rfl rfl (by kernel_rfl) (by kernel_rfl) h hM (by omega) (by omega) (fun _ => by omega)
  · exact PP_no (g' := 10) P3_10_2 rfl rfl (by kernel_rfl) (by kernel_rfl) h hM (by omega) (by omega) (fun hn => absurd c0 (by rw [lt_min _ _ _ (by decide)]; simp [Ev]; omega))
theorem pk3_11 : Pk 3 11 := by
  intro l0 l1 l2 l3 n b0 b1 b2 b3 bn hp n0 M w hM R
  replace R : Rel _ n0 M t36 w := R
  have R1 := up (n := n) R (by kernel_rfl)
  refine (tree_rel hT_b mixed_ok hF_b (by decide) P3_11_r ⟨fun _ => ⟨fun h => big_no (env := Ev l0 l1 l2 l3 n) (i := 2) b2 h, fun _ => trivial⟩, fun _ => trivial⟩ R1.1 (.cons _ _ _ _ (.p0 64 hp (R1.2 64 hp (by kernel_rfl) hM)) (.cons _ _ _ _ (.i _ _) (.cons _ _ _ _ (.i _ (.v 4)) .nil)))).mono ?_
  rintro e w' ⟨r, rfl, hb, hat⟩
  replace hM := R1.2 64 hp (by kernel_rfl) hM
  clear R R1
  refine ⟨r, rfl, hb, ?_⟩
  rcases hat with (⟨c0, (⟨c1, h⟩ | ⟨c1, h⟩)⟩ | ⟨c0, h⟩)
  · exact h.elim
  · exact PP_fin (g' := 12) P3_11_0 103 104 (.bin .and .u64 (.wrap .u64 (.bin .add .u64 (.bin .and .u64 (.bin .and .u64 (.wrap .u64 (.bin .add .u64 (.c (.ofNat 0)) (.bin .and .u64 (.bin .and .u64 (.v 0) (.c (.ofNat 4294967295))) (.c (.ofNat 4294967295))))) (.c (.ofNat 4294967295))) (.c (.ofNat 4294967295))) (.bin .and .u64 (.bin .and .u64 (.v 1) (.c (.ofNat 4294967295))) (.c (.ofNat 4294967295))))) (.c (.ofNat 4294967295))) [(103, 105), (104, 106), (105, 107), (106, 108), (107, 109), (108, 110), (109, 111), (110, 112)] rfl rfl (by kernel_rfl) (by kernel_rfl) (by kernel_rfl) (by kernel_rfl) (by show IE.den (Ev l0 l1 l2 l3 0) _ = sumI l0 l1 l2 l3 2; simp (disch := omega) only [IE.den, den_add, den_and, wrap_u64, and_low, Ev, sumI, Int.ofNat_eq_natCast]; omega) (by kernel_rfl) (by kernel_rfl) h hM (by omega)
  · exact PP_no (g' := 11) P3_11_1 rfl rfl (by kernel_rfl) (by kernel_rfl) h hM (by omega) (by omega) (fun hn => absurd c0 (by rw [lt_min _ _ _ (by decide)]; simp [Ev]; omega))
theorem pk3_12 : Pk 3 12 := by
  intro l0 l1 l2 l3 n b0 b1 b2 b3 bn hp n0 M w hM R
  replace R : Rel _ n0 M t41 w := R
  have R1 := up (n := n) R (by kernel_rfl)
  refine (tree_rel hT_b mixed_ok hF_b (by decide) P3_12_r ⟨fun _ => ⟨fun _ => ⟨fun _ => ⟨fun _ => ⟨fun _ => ⟨fun _ => trivial, fun _ => trivial⟩, fun _ => trivial⟩, fun _ => trivial⟩, fun _ => trivial⟩, fun _ => trivial⟩, fun _ => trivial⟩ R1.1 (.cons _ _ _ _ (.p0 64 hp (R1.2 64 hp (by kernel_rfl) hM)) (.cons _ _ _ _ (.i _ _) (.cons _ _ _ _ (.i _ (.v 4)) .nil)))).mono ?_
  rintro e w' ⟨r, rfl, hb, hat⟩
  replace hM := R1.2 64 hp (by kernel_rfl) hM
  clear R R1
  refine ⟨r, rfl, hb, ?_⟩
  rcases hat with (⟨c0, (⟨c1, (⟨c2, (⟨c3, (⟨c4, (⟨c5, h⟩ | ⟨c5, h⟩)⟩ | ⟨c4, h⟩)⟩ | ⟨c3, h⟩)⟩ | ⟨c2, h⟩)⟩ | ⟨c1, h⟩)⟩ | ⟨c0, h⟩)
  · exact PP_fin (g' := 18) P3_12_0 103 104 (.bin .and .u64 (.wrap .u64 (.bin .add .u64 (.bin .and .u64 (.bin .and .u64 (.wrap .u64 (.bin .add .u64 (.bin .and .u64 (.bin .and .u64 (.wrap .u64 (.bin .add .u64 (.c (.ofNat 0)) (.bin .and .u64 (.bin .and .u64 (.v 0) (.c (.ofNat 4294967295))) (.c (.ofNat 4294967295))))) (.c (.ofNat 4294967295))) (.c (.ofNat 4294967295))) (.bin .and .u64 (.bin .and .u64 (.v 1) (.c (.ofNat 4294967295))) (.c (.ofNat 4294967295))))) (.c (.ofNat 4294967295))) (.c (.ofNat 4294967295))) (.bin .and .u64 (.bin .and .u64 (.v 2) (.c (.ofNat 4294967295))) (.c (.ofNat 4294967295))))) (.c (.ofNat 4294967295))) [(103, 105)] rfl rfl (by kernel_rfl) (by kernel_rfl) (by kernel_rfl) (by kernel_rfl) (by show IE.den (Ev l0 l1 l2 l3 0) _ = sumI l0 l1 l2 l3 3; simp (disch := omega) only [IE.den, den_add, den_and, wrap_u64, and_low, Ev, sumI, Int.ofNat_eq_natCast]; omega) (by kernel_rfl) (by kernel_rfl) h hM (by omega)
  · exact PP_no (g' := 17) P3_12_1 rfl rfl (by kernel_rfl) (by kernel_rfl) h hM (by omega) (by omega) (fun _ => by omega)
  · exact PP_no (g' := 16) P3_12_2 rfl rfl (by kernel_rfl) (by kernel_rfl) h hM (by omega) (by omega) (fun _ => by omega)
  · exact PP_no (g' := 15) P3_12_3 rfl rfl (by kernel_rfl) (by kernel_rfl) h hM (by omega) (by omega) (fun _ => by omega)
  · exact PP_no (g' := 14) P3_12_4 rfl rfl (by kernel_rfl) (by kernel_rfl) h hM (by omega) (by omega) (fun _ => by omega)
  · exact PP_no (g' := 13) P3_12_5 rfl rfl (by kernel_rfl) (by kernel_rfl) h hM (by omega) (by omega) (fun _ => by omega)
  · exact PP_no (g' := 12) P3_12_6 rfl rfl (by kernel_rfl) (by kernel_rfl) h hM (by omega) (by omega) (fun hn => absurd c0 (by rw [lt_min _ _ _ (by decide)]; simp [Ev]; omega))
theorem pk3_13 : Pk 3 13 := by
  intro l0 l1 l2 l3 n b0 b1 b2 b3 bn hp n0 M w hM R
  replace R : Rel _ n0 M t47 w := R
  have R1 := up (n := n) R (by kernel_rfl)
  refine (tree_rel hT_b mixed_ok hF_b (by decide) P3_13_r ⟨fun _ => ⟨fun _ => ⟨fun _ => ⟨fun _ => ⟨fun _ => trivial, fun _ => trivial⟩, fun _ => trivial⟩, fun _ => trivial⟩, fun _ => trivial⟩, fun _ => trivial⟩ R1.1 (.cons _ _ _ _ (.p0 64 hp (R1.2 64 hp (by kernel_rfl) hM)) (.cons _ _ _ _ (.i _ _) (.cons _ _ _ _ (.i _ (.v 4)) .nil)))).mono ?_
  rintro e w' ⟨r, rfl, hb, hat⟩
  replace hM := R1.2 64 hp (by kernel_rfl) hM
  clear R R1
  refine ⟨r, rfl, hb, ?_⟩
  rcases hat with (⟨c0, (⟨c1, (⟨c2, (⟨c3, (⟨c4, h⟩ | ⟨c4, h⟩)⟩ | ⟨c3, h⟩)⟩ | ⟨c2, h⟩)⟩ | ⟨c1, h⟩)⟩ | ⟨c0, h⟩)
  · exact PP_fin (g' := 18) P3_13_0 103 104 (.bin .and .u64 (.wrap .u64 (.bin .add .u64 (.bin .and .u64 (.bin .and .u64 (.wrap .u64 (.bin .add .u64 (.bin .and .u64 (.bin .and .u64 (.wrap .u64 (.bin .add .u64 (.c (.ofNat 0)) (.bin .and .u64 (.bin .and .u64 (.v 0) (.c (.ofNat 4294967295))) (.c (.ofNat 4294967295))))) (.c (.ofNat 4294967295))) (.c (.ofNat 4294967295))) (.bin .and .u64 (.bin .and .u64 (.v 1) (.c (.ofNat 4294967295))) (.c (.ofNat 4294967295))))) (.c (.ofNat 4294967295))) (.c (.ofNat 4294967295))) (.bin .and .u64 (.bin .and .u64 (.v 2) (.c (.ofNat 4294967295))) (.c (.ofNat 4294967295))))) (.c (.ofNat 4294967295))) [(103, 105)] rfl rfl (by kernel_rfl) (by kernel_rfl) (by kernel_rfl) (by kernel_rfl) (by show IE.den (Ev l0 l1 l2 l3 0) _ = sumI l0 l1 l2 l3 3; simp (disch := omega) only [IE.den, den_add, den_and, wrap_u64, and_low, Ev, sumI, Int.ofNat_eq_natCast]; omega) (by kernel_rfl) (by kernel_rfl) h hM (by omega)
  · exact PP_no (g' := 17) P3_13_1 rfl rfl (by kernel_rfl) (by kernel_rfl) h hM (by omega) (by omega) (fun _ => by omega)
  · exact PP_no (g' := 16) P3_13_2 rfl rfl (by kernel_rfl) (by kernel_rfl) h hM (by omega) (by omega) (fun _ => by omega)
  · exact PP_no (g' := 15) P3_13_3 rfl rfl (by kernel_rfl) (by kernel_rfl) h hM (by omega) (by omega) (fun _ => by omega)
  · exact PP_no (g' := 14) P3_13_4 rfl rfl (by kernel_rfl) (by kernel_rfl) h hM (by omega) (by omega) (fun _ => by omega)
  · exact PP_no (g' := 13) P3_13_5 rfl rfl (by kernel_rfl) (by kernel_rfl) h hM (by omega) (by omega) (fun hn => absurd c0 (by rw [lt_min _ _ _ (by decide)]; simp [Ev]; omega))
theorem pk3_14 : Pk 3 14 := by
  intro l0 l1 l2 l3 n b0 b1 b2 b3 bn hp n0 M w hM R
  replace R : Rel _ n0 M t46 w := R
  have R1 := up (n := n) R (by kernel_rfl)
  refine (tree_rel hT_b mixed_ok hF_b (by decide) P3_14_r ⟨fun _ => ⟨fun _ => ⟨fun _ => ⟨fun _ => trivial, fun _ => trivial⟩, fun _ => trivial⟩, fun _ => trivial⟩, fun _ => trivial⟩ R1.1 (.cons _ _ _ _ (.p0 64 hp (R1.2 64 hp (by kernel_rfl) hM)) (.cons _ _ _ _ (.i _ _) (.cons _ _ _ _ (.i _ (.v 4)) .nil)))).mono ?_
  rintro e w' ⟨r, rfl, hb, hat⟩
  replace hM := R1.2 64 hp (by kernel_rfl) hM
  clear R R1
  refine ⟨r, rfl, hb, ?_⟩
  rcases hat with (⟨c0, (⟨c1, (⟨c2, (⟨c3, h⟩ | ⟨c3, h⟩)⟩ | ⟨c2, h⟩)⟩ | ⟨c1, h⟩)⟩ | ⟨c0, h⟩)
  · exact PP_fin (g' := 18) P3_14_0 103 104 (.bin .and .u64 (.wrap .u64 (.bin .add .u64 (.bin .and .u64 (.bin .and .u64 (.wrap .u64 (.bin .add .u64 (.bin .and .u64 (.bin .and .u64 (.wrap .u64 (.bin .add .u64 (.c (.ofNat 0)) (.bin .and .u64 (.bin .and .u64 (.v 0) (.c (.ofNat 4294967295))) (.c (.ofNat 4294967295))))) (.c (.ofNat 4294967295))) (.c (.ofNat 4294967295))) (.bin .and .u64 (.bin .and .u64 (.v 1) (.c (.ofNat 4294967295))) (.c (.ofNat 4294967295))))) (.c (.ofNat 4294967295))) (.c (.ofNat 4294967295))) (.bin .and .u64 (.bin .and .u64 (.v 2) (.c (.ofNat 4294967295))) (.c (.ofNat 4294967295))))) (.c (.ofNat 4294967295))) [(103, 105)] rfl rfl (by kernel_rfl) (by kernel_rfl) (by kernel_rfl) (by kernel_rfl) (by show IE.den (Ev l0 l1 l2 l3 0) _ = sumI l0 l1 l2 l3 3; simp (disch := omega) only [IE.den, den_add, den_and, wrap_u64, and_low, Ev, sumI, Int.ofNat_eq_natCast]; omega) (by kernel_rfl) (by kernel_rfl) h hM (by omega)
  · exact PP_no (g' := 17) P3_14_1 rfl rfl (by kernel_rfl) (by kernel_rfl) h hM (by omega) (by omega) (fun _ => by omega)
  · exact PP_no (g' := 16) P3_14_2 rfl rfl (by kernel_rfl) (by kernel_rfl) h hM (by omega) (by omega) (fun _ => by omega)
  · exact PP_no (g' := 15) P3_14_3 rfl rfl (by kernel_rfl) (by kernel_rfl) h hM (by omega) (by omega) (fun _ => by omega)
  · exact PP_no (g' := 14) P3_14_4 rfl rfl (by kernel_rfl) (by kernel_rfl) h hM (by omega) (by omega) (fun hn => absurd c0 (by rw [lt_min _ _ _ (by decide)]; simp [Ev]; omega))
theorem pk3_15 : Pk 3 15 := by
  intro l0 l1 l2 l3 n b0 b1 b2 b3 bn hp n0 M w hM R
  replace R : Rel _ n0 M t45 w := R
  have R1 := up (n := n) R (by kernel_rfl)
  refine (tree_rel hT_b mixed_ok hF_b (by decide) P3_15_r ⟨fun _ => ⟨fun _ => ⟨fun _ => trivial, fun _ => trivial⟩, fun _ => trivial⟩, fun _ => trivial⟩ R1.1 (.cons _ _ _ _ (.p0 64 hp (R1.2 64 hp (by kernel_rfl) hM)) (.cons _ _ _ _ (.i _ _) (.cons _ _ _ _ (.i _ (.v 4)) .nil)))).mono ?_
  rintro e w' ⟨r, rfl, hb, hat⟩
  replace hM := R1.2 64 hp (by kernel_rfl) hM
  clear R R1
  refine ⟨r, rfl, hb, ?_⟩
  rcases hat with (⟨c0, (⟨c1, (⟨c2, h⟩ | ⟨c2, h⟩)⟩ | ⟨c1, h⟩)⟩ | ⟨c0, h⟩)
  · exact PP_fin (g' := 18) P3_15_0 103 104 (.bin .and .u64 (.wrap .u64 (.bin .add .u64 (.bin .and .u64 (.bin .and .u64 (.wrap .u64 (.bin .add .u64 (.bin .and .u64 (.bin .and .u64 (.wrap .u64 (.bin .add .u64 (.c (.ofNat 0)) (.bin .and .u64 (.bin .and .u64 (.v 0) (.c (.ofNat 4294967295))) (.c (.ofNat 4294967295))))) (.c (.ofNat 4294967295))) (.c (.ofNat 4294967295))) (.bin .and .u64 (.bin .and .u64 (.v 1) (.c (.ofNat 4294967295))) (.c (.ofNat 4294967295))))) (.c (.ofNat 4294967295))) (.c (.ofNat 4294967295))) (.bin .and .u64 (.bin .and .u64 (.v 2) (.c (.ofNat 4294967295))) (.c (.ofNat 4294967295))))) (.c (.ofNat 4294967295))) [(103, 105)] rfl rfl (by kernel_rfl) (by kernel_rfl) (by kernel_rfl) (by kernel_rfl) (by show IE.den (Ev l0 l1 l2 l3 0) _ = sumI l0 l1 l2 l3 3; simp (disch := omega) only [IE.den, den_add, den_and, wrap_u64, and_low, Ev, sumI, Int.ofNat_eq_natCast]; omega) (by kernel_rfl) (by kernel_rfl) h hM (by omega)
  · exact PP_no (g' := 17) P3_15_1 rfl rfl (by kernel_rfl) (by kernel_rfl) h hM (by omega) (by omega) (fun _ => by omega)
  · exact PP_no (g' := 16) P3_15_2 rfl rfl (by kernel_rfl) (by kernel_rfl) h hM (by omega) (by omega) (fun _ => by omega)
  · exact PP_no (g' := 15) P3_15_3 rfl rfl (by kernel_rfl) (by kernel_rfl) h hM (by omega) (by omega) (fun hn => absurd c0 (by rw [lt_min _ _ _ (by decide)]; simp [Ev]; omega))
theorem pk3_16 : Pk 3 16 := by
  intro l0 l1 l2 l3 n b0 b1 b2 b3 bn hp n0 M w hM R
  replace R : Rel _ n0 M t44 w := R
  have R1 := up (n := n) R (by kernel_rfl)
  refine (tree_rel hT_b mixed_ok hF_b (by decide) P3_16_r ⟨fun _ => ⟨fun _ => trivial, fun _ => trivial⟩, fun _ => trivial⟩ R1.1 (.cons _ _ _ _ (.p0 64 hp (R1.2 64 hp (by kernel_rfl) hM)) (.cons _ _ _ _ (.i _ _) (.cons _ _ _ _ (.i _ (.v 4)) .nil)))).mono ?_
  rintro e w' ⟨r, rfl, hb, hat⟩
  replace hM := R1.2 64 hp (by kernel_rfl) hM
  clear R R1
  refine ⟨r, rfl, hb, ?_⟩
  rcases hat with (⟨c0, (⟨c1, h⟩ | ⟨c1, h⟩)⟩ | ⟨c0, h⟩)
  · exact PP_fin (g' := 18) P3_16_0 103 104 (.bin .and .u64 (.wrap .u64 (.bin .add .u64 (.bin .and .u64 (.bin .and .u64 (.wrap .u64 (.bin .add .u64 (.bin .and .u64 (.bin .and .u64 (.wrap .u64 (.bin .add .u64 (.c (.ofNat 0)) (.bin .and .u64 (.bin .and .u64 (.v 0) (.c (.ofNat 4294967295))) (.c (.ofNat 4294967295))))) (.c (.ofNat 4294967295))) (.c (.ofNat 4294967295))) (.bin .and .u64 (.bin .and .u64 (.v 1) (.c (.ofNat 4294967295))) (.c (.ofNat 4294967295))))) (.c (.ofNat 4294967295))) (.c (.ofNat 4294967295))) (.bin .and .u64 (.bin .and .u64 (.v 2) (.c (.ofNat 4294967295))) (.c (.ofNat 4294967295))))) (.c (.ofNat 4294967295))) [(103, 105)] rfl rfl (by kernel_rfl) (by kernel_rfl) (by kernel_rfl) (by kernel_rfl) (by show IE.den (Ev l0 l1 l2 l3 0) _ = sumI l0 l1 l2 l3 3; simp (disch := omega) only [IE.den, den_add, den_and, wrap_u64, and_low, Ev, sumI, Int.ofNat_eq_natCast]; omega) (by kernel_rfl) (by kernel_rfl) h hM (by omega)
  · exact PP_no (g' := 17) P3_16_1 rfl rfl (by kernel_rfl) (by kernel_rfl) h hM (by omega) (by omega) (fun _ => by omega)
  · exact PP_no (g' := 16) P3_16_2 rfl rfl (by kernel_rfl) (by kernel_rfl) h hM (by omega) (by omega) (fun hn => absurd c0 (by rw [lt_min _ _ _ (by decide)]; simp [Ev]; omega))
theorem pk3_17 : Pk 3 17 := by
  intro l0 l1 l2 l3 n b0 b1 b2 b3 bn hp n0 M w hM R
  replace R : Rel _ n0 M t43 w := R
  have R1 := up (n := n) R (by kernel_rfl)
  refine (tree_rel hT_b mixed_ok hF_b (by decide) P3_17_r ⟨fun _ => trivial, fun _ => trivial⟩ R1.1 (.cons _ _ _ _ (.p0 64 hp (R1.2 64 hp (by kernel_rfl) hM)) (.cons _ _ _ _ (.i _ _) (.cons _ _ _ _ (.i _ (.v 4)) .nil)))).mono ?_
  rintro e w' ⟨r, rfl, hb, hat⟩
  replace hM := R1.2 64 hp (by kernel_rfl) hM
  clear R R1
  refine ⟨r, rfl, hb, ?_⟩
  rcases hat with (⟨c0, h⟩ | ⟨c0, h⟩)
  · exact PP_fin (g' := 18) P3_17_0 103 104 (.bin .and .u64 (.wrap .u64 (.bin .add .u64 (.bin .and .u64 (.bin .and .u64 (.wrap .u64 (.bin .add .u64 (.bin .and .u64 (.bin .and .u64 (.wrap .u64 (.bin .add .u64 (.c (.ofNat 0)) (.bin .and .u64 (.bin .and .u64 (.v 0) (.c (.ofNat 4294967295))) (.c (.ofNat 4294967295))))) (.c (.ofNat 4294967295))) (.c (.ofNat 4294967295))) (.bin .and .u64 (.bin .and .u64 (.v 1) (.c (.ofNat 4294967295))) (.c (.ofNat 4294967295))))) (.c (.ofNat 4294967295))) (.c (.ofNat 4294967295))) (.bin .and .u64 (.bin .and .u64 (.v 2) (.c (.ofNat 4294967295))) (.c (.ofNat 4294967295))))) (.c (.ofNat 4294967295))) [(103, 105)] rfl rfl (by kernel_rfl) (by kernel_rfl) (by kernel_rfl) (by kernel_rfl) (by show IE.den (Ev l0 l1 l2 l3 0) _ = sumI l0 l1 l2 l3 3; simp (disch := omega) only [IE.den, den_add, den_and, wrap_u64, and_low, Ev, sumI, Int.ofNat_eq_natCast]; omega) (by kernel_rfl) (by kernel_rfl) h hM (by omega)
  · exact PP_no (g' := 17) P3_17_1 rfl rfl (by kernel_rfl) (by kernel_rfl) h hM (by omega) (by omega) (fun hn => absurd c0 (by rw [lt_min _ _ _ (by decide)]; simp [Ev]; omega))
theorem pk4_0 : Pk 4 0 := by
  intro l0 l1 l2 l3 n b0 b1 b2 b3 bn hp n0 M w hM R
  replace R : Rel _ n0 M t49 w := R
  have R1 := up (n := n) R (by kernel_rfl)
  refine (tree_rel hT_b mixed_ok hF_b (by decide) P4_0_r ⟨fun _ => ⟨fun _ => ⟨fun _ => ⟨fun _ => ⟨fun _ => ⟨fun _ => ⟨fun h => big_no (env := Ev l0 l1 l2 l3 n) (i := 1) b1 h, fun _ => trivial⟩, fun _ => trivial⟩, fun _ => trivial⟩, fun _ => trivial⟩, fun _ => trivial⟩, fun _ => trivial⟩, fun _ => trivial⟩ R1.1 (.cons _ _ _ _ (.p0 64 hp (R1.2 64 hp (by kernel_rfl) hM)) (.cons _ _ _ _ (.i _ _) (.cons _ _ _ _ (.i _ (.v 4)) .nil)))).mono ?_
  rintro e w' ⟨r, rfl, hb, hat⟩
  replace hM := R1.2 64 hp (by kernel_rfl) hM
  clear R R1
  refine ⟨r, rfl, hb, ?_⟩
  rcases hat with (⟨c0, (⟨c1, (⟨c2, (⟨c3, (⟨c4, (⟨c5, (⟨c6, h⟩ | ⟨c6, h⟩)⟩ | ⟨c5, h⟩)⟩ | ⟨c4, h⟩)⟩ | ⟨c3, h⟩)⟩ | ⟨c2, h⟩)⟩ | ⟨c1, h⟩)⟩ | ⟨c0, h⟩)
  · exact h.elim
  · exact PP_fin (g' := 6) P4_0_0 103 104 (.bin .and .u64 (.wrap .u64 (.bin .add .u64 (.c (.ofNat 0)) (.bin .and .u64 (.bin .and .u64 (.v 0) (.c (.ofNat 4294967295))) (.c (.ofNat 4294967295))))) (.c (.ofNat 4294967295))) [(103, 105), (104, 106), (105, 107), (106, 108), (107, 109), (108, 110), (109, 111), (110, 112), (111, 113), (112, 114), (113, 115), (114, 116)] rfl rfl (by kernel_rfl) (by kernel_rfl) (by kernel_rfl) (by kernel_rfl) (by show IE.den (Ev l0 l1 l2 l3 0) _ = sumI l0 l1 l2 l3 1; simp (disch := omega) only [IE.den, den_add, den_and, wrap_u64, and_low, Ev, sumI, Int.ofNat_eq_natCast]; omega) (by kernel_rfl) (by kernel_rfl) h hM (by omega)
  · exact PP_no (g' := 5) P4_0_1 rfl rfl (by kernel_rfl) (by kernel_rfl) h hM (by omega) (by omega) (fun _ => by omega)
  · exact PP_no (g' := 4) P4_0_2 rfl rfl (by kernel_rfl) (by kernel_rfl) h hM (by omega) (by omega) (fun _ => by omega)
  · exact PP_no (g' := 3) P4_0_3 rfl rfl (by kernel_rfl) (by kernel_rfl) h hM (by omega) (by omega) (fun _ => by omega)
  · exact PP_no (g' := 2) P4_0_4 rfl rfl (by kernel_rfl) (by kernel_rfl) h hM (by omega) (by omega) (fun _ => by omega)
  · exact PP_no (g' := 1) P4_0_5 rfl rfl (by kernel_rfl) (by kernel_rfl) h hM (by omega) (by omega) (fun _ => by omega)
  · exact PP_no (g' := 0) P4_0_6 rfl rfl (by kernel_rfl) (by kernel_rfl) h hM (by omega) (by omega) (fun hn => absurd c0 (by rw [lt_min _ _ _ (by decide)]; simp [Ev]; omega))
theorem pk4_1 : Pk 4 1 := by
  intro l0 l1 l2 l3 n b0 b1 b2 b3 bn hp n0 M w hM R
  replace R : Rel _ n0 M t55 w := R
  have R1 := up (n := n) R (by kernel_rfl)
  refine (tree_rel hT_b mixed_ok hF_b (by decide) P4_1_r ⟨fun _ => ⟨fun _ => ⟨fun _ => ⟨fun _ => ⟨fun _ => ⟨fun h => big_no (env := Ev l0 l1 l2 l3 n) (i := 1) b1 h, fun _ => trivial⟩, fun _ => trivial⟩, fun _ => trivial⟩, fun _ => trivial⟩, fun _ => trivial⟩, fun _ => trivial⟩ R1.1 (.cons _ _ _ _ (.p0 64 hp (R1.2 64 hp (by kernel_rfl) hM)) (.cons _ _ _ _ (.i _ _) (.cons _ _ _ _ (.i _ (.v 4)) .nil)))).mono ?_
  rintro e w' ⟨r, rfl, hb, hat⟩
  replace hM := R1.2 64 hp (by kernel_rfl) hM
  clear R R1
  refine ⟨r, rfl, hb, ?_⟩
  rcases hat with (⟨c0, (⟨c1, (⟨c2, (⟨c3, (⟨c4, (⟨c5, h⟩ | ⟨c5, h⟩)⟩ | ⟨c4, h⟩)⟩ | ⟨c3, h⟩)⟩ | ⟨c2, h⟩)⟩ | ⟨c1, h⟩)⟩ | ⟨c0, h⟩)
  · exact h.elim
  · exact PP_fin (g' := 6) P4_1_0 103 104 (.bin .and .u64 (.wrap .u64 (.bin .add .u64 (.c (.ofNat 0)) (.bin .and .u64 (.bin .and .u64 (.v 0) (.c (.ofNat 4294967295))) (.c (.ofNat 4294967295))))) (.c (.ofNat 4294967295))) [(103, 105), (104, 106), (105, 107), (106, 108), (107, 109), (108, 110), (109, 111), (110, 112), (111, 113), (112, 114), (113, 115), (114, 116)] rfl rfl (by kernel_rfl) (by kernel_rfl) (by kernel_rfl) (by kernel_rfl) (by show IE.den (Ev l0 l1 l2 l3 0) _ = sumI l0 l1 l2 l3 1; simp (disch := omega) only [IE.den, den_add, den_and, wrap_u64, and_low, Ev, sumI, Int.ofNat_eq_natCast]; omega) (by kernel_rfl) (by kernel_rfl) h hM (by omega)
  · exact PP_no (g' := 5) P4_1_1 rfl rfl (by kernel_rfl) (by kernel_rfl) h hM (by omega) (by omega) (fun _ => by omega)
  · exact PP_no (g' := 4) P4_1_2 rfl rfl (by kernel_rfl) (by kernel_rfl) h hM (by omega) (by omega) (fun _ => by omega)
  · exact PP_no (g' := 3) P4_1_3 rfl rfl (by kernel_rfl) (by kernel_rfl) h hM (by omega) (by omega) (fun _ => by omega)
  · exact PP_no (g' := 2) P4_1_4 rfl rfl (by kernel_rfl) (by kernel_rfl) h hM (by omega) (by omega) (fun _ => by omega)
  · exact PP_no (g' := 1) P4_1_5 rfl rfl (by kernel_rfl) (by kernel_rfl) h hM (by omega) (by omega) (fun hn => absurd c0 (by rw [lt_min _ _ _ (by decide)]; simp [Ev]; omega))
theorem pk4_2 : Pk 4 2 := by
  intro l0 l1 l2 l3 n b0 b1 b2 b3 bn hp n0 M w hM R
  replace R : Rel _ n0 M t54 w := R
  have R1 := up (n := n) R (by kernel_rfl)
  refine (tree_rel hT_b mixed_ok hF_b (by decide) P4_2_r ⟨fun _ => ⟨fun _ => ⟨fun _ => ⟨fun _ => ⟨fun h => big_no (env := Ev l0 l1 l2 l3 n) (i := 1) b1 h, fun _ => trivial⟩, fun _ => trivial⟩, fun _ => trivial⟩, fun _ => trivial⟩, fun _ => trivial⟩ R1.1 (.cons _ _ _ _ (.p0 64 hp (R1.2 64 hp (by kernel_rfl) hM)) (.cons _ _ _ _ (.i _ _) (.cons _ _ _ _ (.i _ (.v 4)) .nil)))).mono ?_
  rintro e w' ⟨r, rfl, hb, hat⟩
  replace hM := R1.2 64 hp (by kernel_rfl) hM
  clear R R1
  refine ⟨r, rfl, hb, ?_⟩
  rcases hat with (⟨c0, (⟨c1, (⟨c2, (⟨c3, (⟨c4, h⟩ | ⟨c4, h⟩)⟩ | ⟨c3, h⟩)⟩ | ⟨c2, h⟩)⟩ | ⟨c1, h⟩)⟩ | ⟨c0, h⟩)
  · exact h.elim
  · exact PP_fin (g' := 6) P4_2_0 103 104 (.bin .and .u64 (.wrap .u64 (.bin .add .u64 (.c (.ofNat 0)) (.bin .and .u64 (.bin .and .u64 (.v 0) (.c (.ofNat 4294967295))) (.c (.ofNat 4294967295))))) (.c (.ofNat 4294967295))) [(103, 105), (104, 106), (105, 107), (106, 108), (107, 109), (108, 110), (109, 111), (110, 112), (111, 113), (112, 114), (113, 115), (114, 116)] rfl rfl (by kernel_rfl) (by kernel_rfl) (by kernel_rfl) (by kernel_rfl) (by show IE.den (Ev l0 l1 l2 l3 0) _ = sumI l0 l1 l2 l3 1; simp (disch := omega) only [IE.den, den_add, den_and, wrap_u64, and_low, Ev, sumI, Int.ofNat_eq_natCast]; omega) (by kernel_rfl) (by kernel_rfl) h hM (by omega)
  · exact PP_no (g' := 5) P4_2_1 rfl rfl (by kernel_rfl) (by kernel_rfl) h hM (by omega) (by omega) (fun _ => by omega)
  · exact PP_no (g' := 4) P4_2_2 rfl rfl (by kernel_rfl) (by kernel_rfl) h hM (by omega) (by omega) (fun _ => by omega)
  · exact PP_no (g' := 3) P4_2_3 rfl rfl (by kernel_rfl) (by kernel_rfl) h hM (by omega) (by omega) (fun _ => by omega)
  · exact PP_no (g' := 2) P4_2_4 rfl rfl (by kernel_rfl) (by kernel_rfl) h hM (by omega) (by omega) (fun hn => absurd c0 (by rw [lt_min _ _ _ (by decide)]; simp [Ev]; omega))
theorem pk4_3 : Pk 4 3 := by
  intro l0 l1 l2 l3 n b0 b1 b2 b3 bn hp n0 M w hM R
  replace R : Rel _ n0 M t53 w := R
  have R1 := up (n := n) R (by kernel_rfl)
  refine (tree_rel hT_b mixed_ok hF_b (by decide) P4_3_r ⟨fun _ => ⟨fun _ => ⟨fun _ => ⟨fun h => big_no (env := Ev l0 l1 l2 l3 n) (i := 1) b1 h, fun _ => trivial⟩, fun _ => trivial⟩, fun _ => trivial⟩, fun _ => trivial⟩ R1.1 (.cons _ _ _ _ (.p0 64 hp (R1.2 64 hp (by kernel_rfl) hM)) (.cons _ _ _ _ (.i _ _) (.cons _ _ _ _ (.i _ (.v 4)) .nil)))).mono ?_
  rintro e w' ⟨r, rfl, hb, hat⟩
  replace hM := R1.2 64 hp (by kernel_rfl) hM
  clear R R1
  refine ⟨r, rfl, hb, ?_⟩
  rcases hat with (⟨c0, (⟨c1, (⟨c2, (⟨c3, h⟩ | ⟨c3, h⟩)⟩ | ⟨c2, h⟩)⟩ | ⟨c1, h⟩)⟩ | ⟨c0, h⟩)
  · exact h.elim
  · exact PP_fin (g' := 6) P4_3_0 103 104 (.bin .and .u64 (.wrap .u64 (.bin .add .u64 (.c (.ofNat 0)) (.bin .and .u64 (.bin .and .u64 (.v 0) (.c (.ofNat 4294967295))) (.c (.ofNat 4294967295))))) (.c (.ofNat 4294967295))) [(103, 105), (104, 106), (105, 107), (106, 108), (107, 109), (108, 110), (109, 111), (110, 112), (111, 113), (112, 114), (113, 115), (114, 116)] rfl rfl (by kernel_rfl) (by kernel_rfl) (by kernel_rfl) (by kernel_rfl) (by show IE.den (Ev l0 l1 l2 l3 0) _ = sumI l0 l1 l2 l3 1; simp (disch := omega) only [IE.den, den_add, den_and, wrap_u64, and_low, Ev, sumI, Int.ofNat_eq_natCast]; omega) (by kernel_rfl) (by kernel_rfl) h hM (by omega)
  · exact PP_no (g' := 5) P4_3_1 rfl rfl (by kernel_rfl) (by kernel_rfl) h hM (by omega) (by omega) (fun _ => by omega)
  · exact PP_no (g' := 4) P4_3_2 rfl rfl (by kernel_rfl) (by kernel_rfl) h hM (by omega) (by omega) (fun _ => by omega)
  · exact PP_no (g' := 3) P4_3_3 rfl rfl (by kernel_rfl) (by kernel_rfl) h hM (by omega) (by omega) (fun hn => absurd c0 (by rw [lt_min _ _ _ (by decide)]; simp [Ev]; omega))
theorem pk4_4 : Pk 4 4 := by
  intro l0 l1 l2 l3 n b0 b1 b2 b3 bn hp n0 M w hM R
  replace R : Rel _ n0 M t52 w := R
  have R1 := up (n := n) R (by kernel_rfl)
  refine (tree_rel hT_b mixed_ok hF_b (by decide) P4_4_r ⟨fun _ => ⟨fun _ => ⟨fun h => big_no (env := Ev l0 l1 l2 l3 n) (i := 1) b1 h, fun _ => trivial⟩, fun _ => trivial⟩, fun _ => trivial⟩ R1.1 (.cons _ _ _ _ (.p0 64 hp (R1.2 64 hp (by kernel_rfl) hM)) (.cons _ _ _ _ (.i _ _) (.cons _ _ _ _ (.i _ (.v 4)) .nil)))).mono ?_
  rintro e w' ⟨r, rfl, hb, hat⟩
  replace hM := R1.2 64 hp (by kernel_rfl) hM
  clear R R1
  refine ⟨r, rfl, hb, ?_⟩
  rcases hat with (⟨c0, (⟨c1, (⟨c2, h⟩ | ⟨c2, h⟩)⟩ | ⟨c1, h⟩)⟩ | ⟨c0, h⟩)
  · exact h.elim
  · exact PP_fin (g' := 6) P4_4_0 103 104 (.bin .and .u64 (.wrap .u64 (.bin .add .u64 (.c (.ofNat 0)) (.bin .and .u64 (.bin .and .u64 (.v 0) (.c (.ofNat 4294967295))) (.c (.ofNat 4294967295))))) (.c (.ofNat 4294967295))) [(103, 105), (104, 106), (105, 107), (106, 108), (107, 109), (108, 110), (109, 111), (110, 112), (111, 113), (112, 114), (113, 115), (114, 116)] rfl rfl (by kernel_rfl) (by kernel_rfl) (by kernel_rfl) (by kernel_rfl) (by show IE.den (Ev l0 l1 l2 l3 0) _ = sumI l0 l1 l2 l3 1; simp (disch := omega) only [IE.den, den_add, den_and, wrap_u64, and_low, Ev, sumI, Int.ofNat_eq_natCast]; omega) (by kernel_rfl) (by kernel_rfl) h hM (by omega)
  · exact PP_no (g' := 5) P4_4_1 rfl rfl (by kernel_rfl) (by kernel_rfl) h hM (by omega) (by omega) (fun _ => by omega)
  · exact PP_no (g' := 4) P4_4_2 rfl rfl (by kernel_rfl) (by kernel_rfl) h hM (by omega) (by omega) (fun hn => absurd c0 (by rw [lt_min _ _ _ (by decide)]; simp [Ev]; omega))
theorem pk4_5 : Pk 4 5 := by
  intro l0 l1 l2 l3 n b0 b1 b2 b3 bn hp n0 M w hM R
  replace R : Rel _ n0 M t51 w := R
  have R1 := up (n := n) R (by kernel_rfl)
  refine (tree_rel hT_b mixed_ok hF_b (by decide) P4_5_r ⟨fun _ => ⟨fun h => big_no (env := Ev l0 l1 l2 l3 n) (i := 1) b1 h, fun _ => trivial⟩, fun _ => trivial⟩ R1.1 (.cons _ _ _ _ (.p0 64 hp (R1.2 64 hp (by kernel_rfl) hM)) (.cons _ _ _ _ (.i _ _) (.cons _ _ _ _ (.i _ (.v 4)) .nil)))).mono ?_
  rintro e w' ⟨r, rfl, hb, hat⟩
  replace hM := R1.2 64 hp (by kernel_rfl) hM
  clear R R1
  refine ⟨r, rfl, hb, ?_⟩
  rcases hat with (⟨c0, (⟨c1, h⟩ | ⟨c1, h⟩)⟩ | ⟨c0, h⟩)
  · exact h.elim
  · exact PP_fin (g' := 6) P4_5_0 103 104 (.bin .and .u64 (.wrap .u64 (.bin .add .u64 (.c (.ofNat 0)) (.bin .and .u64 (.bin .and .u64 (.v 0) (.c (.ofNat 4294967295))) (.c (.ofNat 4294967295))))) (.c (.ofNat 4294967295))) [(103, 105), (104, 106), (105, 107), (106, 108), (107, 109), (108, 110), (109, 111), (110, 112), (111, 113), (112, 114), (113, 115), (114, 116)] rfl rfl (by kernel_rfl) (by kernel_rfl) (by kernel_rfl) (by kernel_rfl) (by show IE.den (Ev l0 l1 l2 l3 0) _ = sumI l0 l1 l2 l3 1; simp (disch := omega) only [IE.den, den_add, den_and, wrap_u64, and_low, Ev, sumI, Int.ofNat_eq_natCast]; omega) (by kernel_rfl) (by kernel_rfl) h hM (by omega)
  · exact PP_no (g' := 5) P4_5_1 rfl rfl (by kernel_rfl) (by kernel_rfl) h hM (by omega) (by omega) (fun hn => absurd c0 (by rw [lt_min _ _ _ (by decide)]; simp [Ev]; omega))
theorem pk4_6 : Pk 4 6 := by
  intro l0 l1 l2 l3 n b0 b1 b2 b3 bn hp n0 M w hM R
  replace R : Rel _ n0 M t56 w := R
  have R1 := up (n := n) R (by kernel_rfl)
  refine (tree_rel hT_b mixed_ok hF_b (by decide) P4_6_r ⟨fun _ => ⟨fun _ => ⟨fun _ => ⟨fun _ => ⟨fun _ => ⟨fun _ => ⟨fun h => big_no (env := Ev l0 l1 l2 l3 n) (i := 2) b2 h, fun _ => trivial⟩, fun _ => trivial⟩, fun _ => trivial⟩, fun _ => trivial⟩, fun _ => trivial⟩, fun _ => trivial⟩, fun _ => trivial⟩ R1.1 (.cons _ _ _ _ (.p0 64 hp (R1.2 64 hp (by kernel_rfl) hM)) (.cons _ _ _ _ (.i _ _) (.cons _ _ _ _ (.i _ (.v 4)) .nil)))).mono ?_
  rintro e w' ⟨r, rfl, hb, hat⟩
  replace hM := R1.2 64 hp (by kernel_rfl) hM
  clear R R1
  refine ⟨r, rfl, hb, ?_⟩
  rcases hat with (⟨c0, (⟨c1, (⟨c2, (⟨c3, (⟨c4, (⟨c5, (⟨c6, h⟩ | ⟨c6, h⟩)⟩ | ⟨c5, h⟩)⟩ | ⟨c4, h⟩)⟩ | ⟨c3, h⟩)⟩ | ⟨c2, h⟩)⟩ | ⟨c1, h⟩)⟩ | ⟨c0, h⟩)
  · exact h.elim
  · exact PP_fin (g' := 12) P4_6_0 103 104 (.bin .and .u64 (.wrap .u64 (.bin .add .u64 (.bin .and .u64 (.bin .and .u64 (.wrap .u64 (.bin .add .u64 (.c (.ofNat 0)) (.bin .and .u64 (.bin .and .u64 (.v 0) (.c (.ofNat 4294967295))) (.c (.ofNat 4294967295))))) (.c (.ofNat 4294967295))) (.c (.ofNat 4294967295))) (.bin .and .u64 (.bin .and .u64 (.v 1) (.c (.ofNat 4294967295))) (.c (.ofNat 4294967295))))) (.c (.ofNat 4294967295))) [(103, 105), (104, 106), (105, 107), (106, 108), (107, 109), (108, 110), (109, 111), (110, 112), (111, 113), (112, 114)] rfl rfl (by kernel_rfl) (by kernel_rfl) (by kernel_rfl) (by kernel_rfl) (by show IE.den (Ev l0 l1 l2 l3 0) _ = sumI l0 l1 l2 l3 2; simp (disch := omega) only [IE.den, den_add, den_and, wrap_u64, and_low, Ev, sumI, Int.ofNat_eq_natCast]; omega) (by kernel_rfl) (by kernel_rfl) h hM (by omega)
  · exact PP_no (g' := 11) P4_6_1 rfl rfl (by kernel_rfl) (by kernel_rfl) h hM (by omega) (by omega) (fun _ => by omega)
  · exact PP_no (g' := 10) P4_6_2 rfl rfl (by kernel_rfl) (by kernel_rfl) h hM (by omega) (by omega) (fun _ => by omega)
  · exact PP_no (g' := 9) P4_6_3 rfl rfl (by kernel_rfl) (by kernel_rfl) h hM (by omega) (by omega) (fun _ => by omega)
  · exact PP_no (g' := 8) P4_6_4 rfl rfl (by kernel_rfl) (by kernel_rfl) h hM (by omega) (by omega) (fun _ => by omega)
  · exact PP_no (g' := 7) P4_6_5 rfl rfl (by kernel_rfl) (by kernel_rfl) h hM (by omega) (by omega) (fun _ => by omega)
  · exact PP_no (g' := 6) P4_6_6 rfl rfl (by kernel_rfl) (by kernel_rfl) h hM (by omega) (by omega) (fun hn => absurd c0 (by rw [lt_min _ _ _ (by decide)]; simp [Ev]; omega))
theorem pk4_7 : Pk 4 7 := by
  intro l0 l1 l2 l3 n b0 b1 b2 b3 bn hp n0 M w hM R
  replace R : Rel _ n0 M t62 w := R
  have R1 := up (n := n) R (by kernel_rfl)
  refine (tree_rel hT_b mixed_ok hF_b (by decide) P4_7_r ⟨fun _ => ⟨fun _ => ⟨fun _ => ⟨fun _ => ⟨fun _ => ⟨fun h => big_no (env := Ev l0 l1 l2 l3 n) (i := 2) b2 h, fun _ => trivial⟩, fun _ => trivial⟩, fun _ => trivial⟩, fun _ => trivial⟩, fun _ => trivial⟩, fun _ => trivial⟩ R1.1 (.cons _ _ _ _ (.p0 64 hp (R1.2 64 hp (by kernel_rfl) hM)) (.cons _ _ _ _ (.i _ _) (.cons _ _ _ _ (.i _ (.v 4)) .nil)))).mono ?_
  rintro e w' ⟨r, rfl, hb, hat⟩
  replace hM := R1.2 64 hp (by kernel_rfl) hM
  clear R R1
  refine ⟨r, rfl, hb, ?_⟩
  rcases hat with (⟨c0, (⟨c1, (⟨c2, (⟨c3, (⟨c4, (⟨c5, h⟩ | ⟨c5, h⟩)⟩ | ⟨c4, h⟩)⟩ | ⟨c3, h⟩)⟩ | ⟨c2, h⟩)⟩ | ⟨c1, h⟩)⟩ | ⟨c0, h⟩)
  · exact h.elim
  · exact PP_fin (g' := 12) P4_7_0 103 104 (.bin .and .u64 (.wrap .u64 (.bin .add .u64 (.bin .and .u64 (.bin .and .u64 (.wrap .u64 (.bin .add .u64 (.c (.ofNat 0)) (.bin .and .u64 (.bin .and .u64 (.v 0) (.c (.ofNat 4294967295))) (.c (.ofNat 4294967295))))) (.c (.ofNat 4294967295))) (.c (.ofNat 4294967295))) (.bin .and .u64 (.bin .and .u64 (.v 1) (.c (.ofNat 4294967295))) (.c (.ofNat 4294967295))))) (.c (.ofNat 4294967295))) [(103, 105), (104, 106), (105, 107), (106, 108), (107, 109), (108, 110), (109, 111), (110, 112), (111, 113), (112, 114)] rfl rfl (by kernel_rfl) (by kernel_rfl) (by kernel_rfl) (by kernel_rfl) (by show IE.den (Ev l0 l1 l2 l3 0) _ = sumI l0 l1 l2 l3 2; simp (disch := omega) only [IE.den, den_add, den_and, wrap_u64, and_low, Ev, sumI, Int.ofNat_eq_natCast]; omega) (by kernel_rfl) (by kernel_rfl) h hM (by omega)
  · exact PP_no (g' := 11) P4_7_1 rfl rfl (by kernel_rfl) (by kernel_rfl) h hM (by omega) (by omega) (fun _ => by omega)
  · exact PP_no (g' := 10) P4_7_2 rfl rfl (by kernel_rfl) (by kernel_rfl) h hM (by omega) (by omega) (fun _ => by omega)
  · exact PP_no (g' := 9) P4_7_3 rfl rfl (by kernel_rfl) (by kernel_rfl) h hM (by omega) (by omega) (fun _ => by omega)
  · exact PP_no (g' := 8) P4_7_4 rfl rfl (by kernel_rfl) (by kernel_rfl) h hM (by omega) (by omega) (fun _ => by omega)
  · exact PP_no (g' := 7) P4_7_5 rfl rfl (by kernel_rfl) (by kernel_rfl) h hM (by omega) (by omega) (fun hn => absurd c0 (by rw [lt_min _ _ _ (by decide)]; simp [Ev]; omega))
theorem pk4_8 : Pk 4 8 := by
  intro l0 l1 l2 l3 n b0 b1 b2 b3 bn hp n0 M w hM R
  replace R : Rel _ n0 M t61 w := R
  have R1 := up (n := n) R (by kernel_rfl)
  refine (tree_rel hT_b mixed_ok hF_b (by decide) P4_8_r ⟨fun _ => ⟨fun _ => ⟨fun _ => ⟨fun _ => ⟨fun h => big_no (env := Ev l0 l1 l2 l3 n) (i := 2) b2 h, fun _ => trivial⟩, fun _ => trivial⟩, fun _ => trivial⟩, fun _ => trivial⟩, fun _ => trivial⟩ R1.1 (.cons _ _ _ _ (.p0 64 hp (R1.2 64 hp (by kernel_rfl) hM)) (.cons _ _ _ _ (.i _ _) (.cons _ _ _ _ (.i _ (.v 4)) .nil)))).mono ?_
  rintro e w' ⟨r, rfl, hb, hat⟩
  replace hM := R1.2 64 hp (by kernel_rfl) hM
  clear R R1
  refine ⟨r, rfl, hb, ?_⟩
  rcases hat with (⟨c0, (⟨c1, (⟨c2, (⟨c3, (⟨c4, h⟩ | ⟨c4, h⟩)⟩ | ⟨c3, h⟩)⟩ | ⟨c2, h⟩)⟩ | ⟨c1, h⟩)⟩ | ⟨c0, h⟩)
  · exact h.elim
  · exact PP_fin (g' := 12) P4_8_0 103 104 (.bin .and .u64 (.wrap .u64 (.bin .add .u64 (.bin .and .u64 (.bin .and .u64 (.wrap .u64 (.bin .add .u64 (.c (.ofNat 0)) (.bin .and .u64 (.bin .and .u64 (.v 0) (.c (.ofNat 4294967295))) (.c (.ofNat 4294967295))))) (.c (.ofNat 4294967295))) (.c (.ofNat 4294967295))) (.bin .and .u64 (.bin .and .u64 (.v 1) (.c (.ofNat 4294967295))) (.c (.ofNat 4294967295))))) (.c (.ofNat 4294967295))) [(103, 105), (104, 106), (105, 107), (106, 108), (107, 109), (108, 110), (109, 111), (110, 112), (111, 113), (112, 114)] rfl rfl (by kernel_rfl) (by kernel_rfl) (by kernel_rfl) (by kernel_rfl) (by show IE.den (Ev l0 l1 l2 l3 0) _ = sumI l0 l1 l2 l3 2; simp (disch := omega) only [IE.den, den_add, den_and, wrap_u64, and_low, Ev, sumI, Int.ofNat_eq_natCast]; omega) (by kernel_rfl) (by kernel_rfl) h hM (by omega)
  · exact PP_no (g' := 11) P4_8_1 rfl rfl (by kernel_rfl) (by kernel_rfl) h hM (by omega) (by omega) (fun _ => by omega)
  · exact PP_no (g' := 10) P4_8_2 rfl rfl (by kernel_rfl) (by kernel_rfl) h hM (by omega) (by omega) (fun _ => by omega)
  · exact PP_no (g' := 9) P4_8_3 rfl rfl (by kernel_rfl) (by kernel_rfl) h hM (by omega) (by omega) (fun _ => by omega)
  · exact PP_no (g' := 8) P4_8_4 rfl rfl (by kernel_rfl) (by kernel_rfl) h hM (by omega) (by omega) (fun hn => absurd c0 (by rw [lt_min _ _ _ (by decide)]; simp [Ev]; omega))
theorem pk4_9 : Pk 4 9 := by
  intro l0 l1 l2 l3 n b0 b1 b2 b3 bn hp n0 M w hM R
  replace R : Rel _ n0 M t60 w := R
  have R1 := up (n := n) R (by kernel_rfl)
  refine (tree_rel hT_b mixed_ok hF_b (by decide) P4_9_r ⟨fun _ => ⟨fun _ => ⟨fun _ => ⟨fun h => big_no (env := Ev l0 l1 l2 l3 n) (i := 2) b2 h, fun _ => trivial⟩, fun _ => trivial⟩, fun _ => trivial⟩, fun _ => trivial⟩ R1.1 (.cons _ _ _ _ (.p0 64 hp (R1.2 64 hp (by kernel_rfl) hM)) (.cons _ _ _ _ (.i _ _) (.cons _ _ _ _ (.i _ (.v 4)) .nil)))).mono ?_
  rintro e w' ⟨r, rfl, hb, hat⟩
  replace hM := R1.2 64 hp (by kernel_rfl) hM
  clear R R1
  refine ⟨r, rfl, hb, ?_⟩
  rcases hat with (⟨c0, (⟨c1, (⟨c2, (⟨c3, h⟩ | ⟨c3, h⟩)⟩ | ⟨c2, h⟩)⟩ | ⟨c1, h⟩)⟩ | ⟨c0, h⟩)
  · exact h.elim
  · exact PP_fin (g' := 12) P4_9_0 103 104 (.bin .and .u64 (.wrap .u64 (.bin .add .u64 (.bin .and .u64 (.bin .and .u64 (.wrap .u64 (.bin .add .u64 (.c (.ofNat 0)) (.bin .and .u64 (.bin .and .u64 (.v 0) (.c (.ofNat 4294967295))) (.c (.ofNat 4294967295))))) (.c (.ofNat 4294967295))) (.c (.ofNat 4294967295))) (.bin .and .u64 (.bin .and .u64 (.v 1) (.c (.ofNat 4294967295))) (.c (.ofNat 4294967295))))) (.c (.ofNat 4294967295))) [(103, 105), (104, 106), (105, 107), (106, 108), (107, 109), (108, 110), (109, 111), (110, 112), (111, 113), (112, 114)] rfl rfl (by kernel_rfl) (by kernel_rfl) (by kernel_rfl) (by kernel_rfl) (by show IE.den (Ev l0 l1 l2 l3 0) _ = sumI l0 l1 l2 l3 2; simp (disch := omega) only [IE.den, den_add, den_and, wrap_u64, and_low, Ev, sumI, Int.ofNat_eq_natCast]; omega) (by kernel_rfl) (by kernel_rfl) h hM (by omega)
  · exact PP_no (g' := 11) P4_9_1 rfl rfl (by kernel_rfl) (by kernel_rfl) h hM (by omega) (by omega) (fun _ => by omega)
  · exact PP_no (g' := 10) P4_9_2 rfl rfl (by kernel_rfl) (by kernel_rfl) h hM (by omega) (by omega) (fun _ => by omega)
  · exact PP_no (g' := 9) P4_9_3 rfl rfl (by kernel_rfl) (by kernel_rfl) h hM (by omega) (by omega) (fun hn => absurd c0 (by rw [lt_min _ _ _ (by decide)]; simp [Ev]; omega))
theorem pk4_10 : Pk 4 10 := by
  intro l0 l1 l2 l3 n b0 b1 b2 b3 bn hp n0 M w hM R
  replace R : Rel _ n0 M t59 w := R
  have R1 := up (n := n) R (by kernel_rfl)
  refine (tree_rel hT_b mixed_ok hF_b (by decide) P4_10_r ⟨fun _ => ⟨fun _ => ⟨fun h => big_no (env := Ev l0 l1 l2 l3 n) (i := 2) b2 h, fun _ => trivial⟩, fun _ => trivial⟩, fun _ => trivial⟩ R1.1 (.cons _ _ _ _ (.p0 64 hp (R1.2 64 hp (by kernel_rfl) hM)) (.cons _ _ _ _ (.i _ _) (.cons _ _ _ _ (.i _ (.v 4)) .nil)))).mono ?_
  rintro e w' ⟨r, rfl, hb, hat⟩
  replace hM := R1.2 64 hp (by kernel_rfl) hM
  clear R R1
  refine ⟨r, rfl, hb, ?_⟩
  rcases hat with (⟨c0, (⟨c1, (⟨c2, h⟩ | ⟨c2, h⟩)⟩ | ⟨c1, h⟩)⟩ | ⟨c0, h⟩)
  · exact h.elim
  · exact PP_fin (g' := 12) P4_10_0 103 104 (.bin .and .u64 (.wrap .u64 (.bin .add .u64 (.bin .and .u64 (.bin .and .u64 (.wrap .u64 (.bin .add .u64 (.c (.ofNat 0)) (.bin .and .u64 (.bin .and .u64 (.v 0) (.c (.ofNat 4294967295))) (.c (.ofNat 4294967295))))) (.c (.ofNat 4294967295))) (.c (.ofNat 4294967295))) (.bin .and .u64 (.bin .and .u64 (.v 1) (.c (.ofNat 4294967295))) (.c (.ofNat 4294967295))))) (.c (.ofNat 4294967295))) [(103, 105), (104, 106), (105, 107), (106, 108), (107, 109), (108, 110), (109, 111), (110, 112), (111, 113), (112, 114)] rfl rfl (by kernel_rfl) (by kernel_rfl) (by kernel_rfl) (by kernel_rfl) (by show IE.den (Ev l0 l1 l2 l3 0) _ = sumI l0 l1 l2 l3 2; simp (disch := omega) only [IE.den, den_add, den_and, wrap_u64, and_low, Ev, sumI, Int.ofNat_eq_natCast]; omega) (by kernel_rfl) (by kernel_rfl) h hM (by omega)
  · exact PP_no (g' := 11) P4_10_1 rfl rfl (by kernel_rfl) (by kernel_rfl) h hM (by omega) (by omega) (fun _ => by omega)
  · exact PP_no (g' := 10) P4_10_2 rfl rfl (by kernel_rfl) (by kernel_rfl) h hM (by omega) (by omega) (fun hn => absurd c0 (by rw [lt_min _ _ _ (by decide)]; simp [Ev]; omega))
theorem pk4_11 : Pk 4 11 := by
  intro l0 l1 l2 l3 n b0 b1 b2 b3 bn hp n0 M w hM R
  replace R : Rel _ n0 M t58 w := R
  have R1 := up (n := n) R (by kernel_rfl)
  refine (tree_rel hT_b mixed_ok hF_b (by decide) P4_11_r ⟨fun _ => ⟨fun h => big_no (env := Ev l0 l1 l2 l3 n) (i := 2) b2 h, fun _ => trivial⟩, fun _ => trivial⟩ R1.1 (.cons _ _ _ _ (.p0 64 hp (R1.2 64 hp (by kernel_rfl) hM)) (.cons _ _ _ _ (.i _ _) (.cons _ _ _ _ (.i _ (.v 4)) .nil)))).mono ?_
  rintro e w' ⟨r, rfl, hb, hat⟩
  replace hM := R1.2 64 hp (by kernel_rfl) hM
  clear R R1
  refine ⟨r, rfl, hb, ?_⟩
  rcases hat with (⟨c0, (⟨c1, h⟩ | ⟨c1, h⟩)⟩ | ⟨c0, h⟩)
  · exact h.elim
  · exact PP_fin (g' := 12) P4_11_0 103 104 (.bin .and .u64 (.wrap .u64 (.bin .add .u64 (.bin .and .u64 (.bin .and .u64 (.wrap .u64 (.bin .add .u64 (.c (.ofNat 0)) (.bin .and .u64 (.bin .and .u64 (.v 0) (.c (.ofNat 4294967295))) (.c (.ofNat 4294967295))))) (.c (.ofNat 4294967295))) (.c (.ofNat 4294967295))) (.bin .and .u64 (.bin .and .u64 (.v 1) (.c (.ofNat 4294967295))) (.c (.ofNat 4294967295))))) (.c (.ofNat 4294967295))) [(103, 105), (104, 106), (105, 107), (106, 108), (107, 109), (108, 110), (109, 111), (110, 112), (111, 113), (112, 114)] rfl rfl (by kernel_rfl) (by kernel_rfl) (by kernel_rfl) (by kernel_rfl) (by show IE.den (Ev l0 l1 l2 l3 0) _ = sumI l0 l1 l2 l3 2; simp (disch := omega) only [IE.den, den_add, den_and, wrap_u64, and_low, Ev, sumI, Int.ofNat_eq_natCast]; omega) (by kernel_rfl) (by kernel_rfl) h hM (by omega)
  · exact PP_no (g' := 11) P4_11_1 rfl rfl (by kernel_rfl) (by kernel_rfl) h hM (by omega) (by omega) (fun hn => absurd c0 (by rw [lt_min _ _ _ (by decide)]; simp [Ev]; omega))
theorem pk4_12 : Pk 4 12 := by
  intro l0 l1 l2 l3 n b0 b1 b2 b3 bn hp n0 M w hM R
  replace R : Rel _ n0 M t63 w := R
  have R1 := up (n := n) R (by kernel_rfl)
  refine (tree_rel hT_b mixed_ok hF_b (by decide) P4_12_r ⟨fun _ => ⟨fun _ => ⟨fun _ => ⟨fun _ => ⟨fun _ => ⟨fun _ => ⟨fun h => big_no (env := Ev l0 l1 l2 l3 n) (i := 3) b3 h, fun _ => trivial⟩, fun _ => trivial⟩, fun _ => trivial⟩, fun _ => trivial⟩, fun _ => trivial⟩, fun _ => trivial⟩, fun _ => trivial⟩ R1.1 (.cons _ _ _ _ (.p0 64 hp (R1.2 64 hp (by kernel_rfl) hM)) (.cons _ _ _ _ (.i _ _) (.cons _ _ _ _ (.i _ (.v 4)) .nil)))).mono ?_
  rintro e w' ⟨r, rfl, hb, hat⟩
  replace hM := R1.2 64 hp (by kernel_rfl) hM
  clear R R1
  refine ⟨r, rfl, hb, ?_⟩
  rcases hat with (⟨c0, (⟨c1, (⟨c2, (⟨c3, (⟨c4, (⟨c5, (⟨c6, h⟩ | ⟨c6, h⟩)⟩ | ⟨c5, h⟩)⟩ | ⟨c4, h⟩)⟩ | ⟨c3, h⟩)⟩ | ⟨c2, h⟩)⟩ | ⟨c1, h⟩)⟩ | ⟨c0, h⟩)
  · exact h.elim
  · exact PP_fin (g' := 18) P4_12_0 103 104 (.bin .and .u64 (.wrap .u64 (.bin .add .u64 (.bin .and .u64 (.bin .and .u64 (.wrap .u64 (.bin .add .u64 (.bin .and .u64 (.bin .and .u64 (.wrap .u64 (.bin .add .u64 (.c (.ofNat 0)) (.bin .and .u64 (.bin .and .u64 (.v 0) (.c (.ofNat 4294967295))) (.c (.ofNat 4294967295))))) (.c (.ofNat 4294967295))) (.c (.ofNat 4294967295))) (.bin .and .u64 (.bin .and .u64 (.v 1) (.c (.ofNat 4294967295))) (.c (.ofNat 4294967295))))) (.c (.ofNat 4294967295))) (.c (.ofNat 4294967295))) (.bin .and .u64 (.bin .and .u64 (.v 2) (.c (.ofNat 4294967295))) (.c (.ofNat 4294967295))))) (.c (.ofNat 4294967295))) [(103, 105), (104, 106), (105, 107), (106, 108), (107, 109), (108, 110), (109, 111), (110, 112)] rfl rfl (by kernel_rfl) (by kernel_rfl) (by kernel_rfl) (by kernel_rfl) (by show IE.den (Ev l0 l1 l2 l3 0) _ = sumI l0 l1 l2 l3 3; simp (disch := omega) only [IE.den, den_add, den_and, wrap_u64, and_low, Ev, sumI, Int.ofNat_eq_natCast]; omega) (by kernel_rfl) (by kernel_rfl) h hM (by omega)
  · exact PP_no (g' := 17) P4_12_1 rfl rfl (by kernel_rfl) (by kernel_rfl) h hM (by omega) (by omega) (fun _ => by omega)
  · exact PP_no (g' := 16) P4_12_2 rfl rfl (by kernel_rfl) (by kernel_rfl) h hM (by omega) (by omega) (fun _ => by omega)
  · exact PP_no (g' := 15) P4_12_3 rfl rfl (by kernel_rfl) (by kernel_rfl) h hM (by omega) (by omega) (fun _ => by omega)
  · exact PP_no (g' := 14) P4_12_4 rfl rfl (by kernel_rfl) (by kernel_rfl) h hM (by omega) (by omega) (fun _ => by omega)
  · exact PP_no (g' := 13) P4_12_5 rfl rfl (by kernel_rfl) (by kernel_rfl) h hM (by omega) (by omega) (fun _ => by omega)
  · exact PP_no (g' := 12) P4_12_6 rfl rfl (by kernel_rfl) (by kernel_rfl) h hM (by omega) (by omega) (fun hn => absurd c0 (by rw [lt_min _ _ _ (by decide)]; simp [Ev]; omega))
theorem pk4_13 : Pk 4 13 := by
  intro l0 l1 l2 l3 n b0 b1 b2 b3 bn hp n0 M w hM R
  replace R : Rel _ n0 M t69 w := R
  have R1 := up (n := n) R (by kernel_rfl)
  refine (tree_rel hT_b mixed_ok hF_b (by decide) P4_13_r ⟨fun _ => ⟨fun _ => ⟨fun _ => ⟨fun _ => ⟨fun _ => ⟨fun h => big_no (env := Ev l0 l1 l2 l3 n) (i := 3) b3 h, fun _ => trivial⟩, fun _ => trivial⟩, fun _ => trivial⟩, fun _ => trivial⟩, fun _ => trivial⟩, fun _ => trivial⟩ R1.1 (.cons _ _ _ _ (.p0 64 hp (R1.2 64 hp (by kernel_rfl) hM)) (.cons _ _ _ _ (.i _ _) (.cons _ _ _ _ (.i _ (.v 4)) .nil)))).mono ?_
  rintro e w' ⟨r, rfl, hb, hat⟩
  replace hM := R1.2 64 hp (by kernel_rfl) hM
  clear R R1
  refine ⟨r, rfl, hb, ?_⟩
  rcases hat with (⟨c0, (⟨c1, (⟨c2, (⟨c3, (⟨c4, (⟨c5, h⟩ | ⟨c5, h⟩)⟩ | ⟨c4, h⟩)⟩ | ⟨c3, h⟩)⟩ | ⟨c2, h⟩)⟩ | ⟨c1, h⟩)⟩ | ⟨c0, h⟩)
  · exact h.elim
  · exact PP_fin (g' := 18) P4_13_0 103 104 (.bin .and .u64 (.wrap .u64 (.bin .add .u64 (.bin .and .u64 (.bin .and .u64 (.wrap .u64 (.bin .add .u64 (.bin .and .u64 (.bin .and .u64 (.wrap .u64 (.bin .add .u64 (.c (.ofNat 0)) (.bin .and .u64 (.bin .and .u64 (.v 0) (.c (.ofNat 4294967295))) (.c (.ofNat 4294967295))))) (.c (.ofNat 4294967295))) (.c (.ofNat 4294967295))) (.bin .and .u64 (.bin .and .u64 (.v 1) (.c (.ofNat 4294967295))) (.c (.ofNat 4294967295))))) (.c (.ofNat 4294967295))) (.c (.ofNat 4294967295))) (.bin .and .u64 (.bin .and .u64 (.v 2) (.c (.ofNat 4294967295))) (.c (.ofNat 4294967295))))) (.c (.ofNat 4294967295))) [(103, 105), (104, 106), (105, 107), (106, 108), (107, 109), (108, 110), (109, 111), (110, 112)] rfl rfl (by kernel_rfl) (by kernel_rfl) (by kernel_rfl) (by kernel_rfl) (by show IE.den (Ev l0 l1 l2 l3 0) _ = sumI l0 l1 l2 l3 3; simp (disch := omega) only [IE.den, den_add, den_and, wrap_u64, and_low, Ev, sumI, Int.ofNat_eq_natCast]; omega) (by kernel_rfl) (by kernel_rfl) h hM (by omega)
  · exact PP_no (g' := 17) P4_13_1 rfl rfl (by kernel_rfl) (by kernel_rfl) h hM (by omega) (by omega) (fun _ => by omega)
  · exact PP_no (g' := 16) P4_13_2 rfl rfl (by kernel_rfl) (by kernel_rfl) h hM (by omega) (by omega) (fun _ => by omega)
  · exact PP_no (g' := 15) P4_13_3 rfl rfl (by kernel_rfl) (by kernel_rfl) h hM (by omega) (by omega) (fun _ => by omega)
  · exact PP_no (g' := 14) P4_13_4 rfl rfl (by kernel_rfl) (by kernel_rfl) h hM (by omega) (by omega) (fun _ => by omega)
  · exact PP_no (g' := 13) P4_13_5 rfl rfl (by kernel_rfl) (by kernel_rfl) h hM (by omega) (by omega) (fun hn => absurd c0 (by rw [lt_min _ _ _ (by decide)]; simp [Ev]; omega))
theorem pk4_14 : Pk 4 14 := by
  intro l0 l1 l2 l3 n b0 b1 b2 b3 bn hp n0 M w hM R
  replace R : Rel _ n0 M t68 w := R
  have R1 := up (n := n) R (by kernel_rfl)
  refine (tree_rel hT_b mixed_ok hF_b (by decide) P4_14_r ⟨fun _ => ⟨fun _ => ⟨fun _ => ⟨fun _ => ⟨fun h => big_no (env := Ev l0 l1 l2 l3 n) (i := 3) b3 h, fun _ => trivial⟩, fun _ => trivial⟩, fun _ => trivial⟩, fun _ => trivial⟩, fun _ => trivial⟩ R1.1 (.cons _ _ _ _ (.p0 64 hp (R1.2 64 hp (by kernel_rfl) hM)) (.cons _ _ _ _ (.i _ _) (.cons _ _ _ _ (.i _ (.v 4)) .nil)))).mono ?_
  rintro e w' ⟨r, rfl, hb, hat⟩
  replace hM := R1.2 64 hp (by kernel_rfl) hM
  clear R R1
  refine ⟨r, rfl, hb, ?_⟩
  rcases hat with (⟨c0, (⟨c1, (⟨c2, (⟨c3, (⟨c4, h⟩ | ⟨c4, h⟩)⟩ | ⟨c3, h⟩)⟩ | ⟨c2, h⟩)⟩ | ⟨c1, h⟩)⟩ | ⟨c0, h⟩)
  · exact h.elim
  · exact PP_fin (g' := 18) P4_14_0 103 104 (.bin .and .u64 (.wrap .u64 (.bin .add .u64 (.bin .and .u64 (.bin .and .u64 (.wrap .u64 (.bin .add .u64 (.bin .and .u64 (.bin .and .u64 (.wrap .u64 (.bin .add .u64 (.c (.ofNat 0)) (.bin .and .u64 (.bin .and .u64 (.v 0) (.c (.ofNat 4294967295))) (.c (.ofNat 4294967295))))) (.c (.ofNat 4294967295))) (.c (.ofNat 4294967295))) (.bin .and .u64 (.bin .and .u64 (.v 1) (.c (.ofNat 4294967295))) (.c (.ofNat 4294967295))))) (.c (.ofNat 4294967295))) (.c (.ofNat 4294967295))) (.bin .and .u64 (.bin .and .u64 (.v 2) (.c (.ofNat 4294967295))) (.c (.ofNat 4294967295))))) (.c (.ofNat 4294967295))) [(103, 105), (104, 106), (105, 107), (106, 108), (107, 109), (108, 110), (109, 111), (110, 112)] rfl rfl (by kernel_rfl) (by kernel_rfl) (by kernel_rfl) (by kernel_rfl) (by show IE.den (Ev l0 l1 l2 l3 0) _ = sumI l0 l1 l2 l3 3; simp (disch := omega) only [IE.den, den_add, den_and, wrap_u64, and_low, Ev, sumI, Int.ofNat_eq_natCast]; omega) (by kernel_rfl) (by kernel_rfl) h hM (by omega)
  · exact PP_no (g' := 17) P4_14_1 rfl rfl (by kernel_rfl) (by kernel_rfl) h hM (by omega) (by omega) (fun _ => by omega)
  · exact PP_no (g' := 16) P4_14_2 rfl rfl (by kernel_rfl) (by kernel_rfl) h hM (by omega) (by omega) (fun _ => by omega)
  · exact PP_no (g' := 15) P4_14_3 rfl rfl (by kernel_rfl) (by kernel_rfl) h hM (by omega) (by omega) (fun _ => by omega)
  · exact PP_no (g' := 14) P4_14_4 rfl rfl (by kernel_rfl) (by kernel_rfl) h hM (by omega) (by omega) (fun hn => absurd c0 (by rw [lt_min _ _ _ (by decide)]; simp [Ev]; omega))
theorem pk4_15 : Pk 4 15 := by
  intro l0 l1 l2 l3 n b0 b1 b2 b3 bn hp n0 M w hM R
  replace R : Rel _ n0 M t67 w := R
  have R1 := up (n := n) R (by kernel_rfl)
  refine (tree_rel hT_b mixed_ok hF_b (by decide) P4_15_r ⟨fun _ => ⟨fun _ => ⟨fun _ => ⟨fun h => big_no (env := Ev l0 l1 l2 l3 n) (i := 3) b3 h, fun _ => trivial⟩, fun _ => trivial⟩, fun _ => trivial⟩, fun _ => trivial⟩ R1.1 (.cons _ _ _ _ (.p0 64 hp (R1.2 64 hp (by kernel_rfl) hM)) (.cons _ _ _ _ (.i _ _) (.cons _ _ _ _ (.i _ (.v 4)) .nil)))).mono ?_
  rintro e w' ⟨r, rfl, hb, hat⟩
  replace hM := R1.2 64 hp (by kernel_rfl) hM
  clear R R1
  refine ⟨r, rfl, hb, ?_⟩
  rcases hat with (⟨c0, (⟨c1, (⟨c2, (⟨c3, h⟩ | ⟨c3, h⟩)⟩ | ⟨c2, h⟩)⟩ | ⟨c1, h⟩)⟩ | ⟨c0, h⟩)
  · exact h.elim
  · exact PP_fin (g' := 18) P4_15_0 103 104 (.bin .and .u64 (.wrap .u64 (.bin .add .u64 (.bin .and .u64 (.bin .and .u64 (.wrap .u64 (.bin .add .u64 (.bin .and .u64 (.bin .and .u64 (.wrap .u64 (.bin .add .u64 (.c (.ofNat 0)) (.bin .and .u64 (.bin .and .u64 (.v 0) (.c (.ofNat 4294967295))) (.c (.ofNat 4294967295))))) (.c (.ofNat 4294967295))) (.c (.ofNat 4294967295))) (.bin .and .u64 (.bin .and .u64 (.v 1) (.c (.ofNat 4294967295))) (.c (.ofNat 4294967295))))) (.c (.ofNat 4294967295))) (.c (.ofNat 4294967295))) (.bin .and .u64 (.bin .and .u64 (.v 2) (.c (.ofNat 4294967295))) (.c (.ofNat 4294967295))))) (.c (.ofNat 4294967295))) [(103, 105), (104, 106), (105, 107), (106, 108), (107, 109), (108, 110), (109, 111), (110, 112)] rfl rfl (by kernel_rfl) (by kernel_rfl) (by kernel_rfl) (by kernel_rfl) (by show IE.den (Ev l0 l1 l2 l3 0) _ = sumI l0 l1 l2 l3 3; simp (disch := omega) only [IE.den, den_add, den_and, wrap_u64, and_low, Ev, sumI, Int.ofNat_eq_natCast]; omega) (by kernel_rfl) (by kernel_rfl) h hM (by omega)
  · exact PP_no (g' := 17) P4_15_1 rfl rfl (by kernel_rfl) (by kernel_rfl) h hM (by omega) (by omega) (fun _ => by omega)
  · exact PP_no (g' := 16) P4_15_2 rfl rfl (by kernel_rfl) (by kernel_rfl) h hM (by omega) (by omega) (fun _ => by omega)
  · exact PP_no (g' := 15) P4_15_3 rfl rfl (by kernel_rfl) (by kernel_rfl) h hM (by omega) (by omega) (fun hn => absurd c0 (by rw [lt_min _ _ _ (by decide)]; simp [Ev]; omega))
theorem pk4_16 : Pk 4 16 := by
  intro l0 l1 l2 l3 n b0 b1 b2 b3 bn hp n0 M w hM R
  replace R : Rel _ n0 M t66 w := R
  have R1 := up (n := n) R (by kernel_rfl)
  refine (tree_rel hT_b mixed_ok hF_b (by decide) P4_16_r ⟨fun _ => ⟨fun _ => ⟨fun h => big_no (env := Ev l0 l1 l2 l3 n) (i := 3) b3 h, fun _ => trivial⟩, fun _ => trivial⟩, fun _ => trivial⟩ R1.1 (.cons _ _ _ _ (.p0 64 hp (R1.2 64 hp (by kernel_rfl) hM)) (.cons _ _ _ _ (.i _ _) (.cons _ _ _ _ (.i _ (.v 4)) .nil)))).mono ?_
  rintro e w' ⟨r, rfl, hb, hat⟩
  replace hM := R1.2 64 hp (by kernel_rfl) hM
  clear R R1
  refine ⟨r, rfl, hb, ?_⟩
  rcases hat with (⟨c0, (⟨c1, (⟨c2, h⟩ | ⟨c2, h⟩)⟩ | ⟨c1, h⟩)⟩ | ⟨c0, h⟩)
  · exact h.elim
  · exact PP_fin (g' := 18) P4_16_0 103 104 (.bin .and .u64 (.wrap .u64 (.bin .add .u64 (.bin .and .u64 (.bin .and .u64 (.wrap .u64 (.bin .add .u64 (.bin .and .u64 (.bin .and .u64 (.wrap .u64 (.bin .add .u64 (.c (.ofNat 0)) (.bin .and .u64 (.bin .and .u64 (.v 0) (.c (.ofNat 4294967295))) (.c (.ofNat 4294967295))))) (.c (.ofNat 4294967295))) (.c (.ofNat 4294967295))) (.bin .and .u64 (.bin .and .u64 (.v 1) (.c (.ofNat 4294967295))) (.c (.ofNat 4294967295))))) (.c (.ofNat 4294967295))) (.c (.ofNat 4294967295))) (.bin .and .u64 (.bin .and .u64 (.v 2) (.c (.ofNat 4294967295))) (.c (.ofNat 4294967295))))) (.c (.ofNat 4294967295))) [(103, 105), (104, 106), (105, 107), (106, 108), (107, 109), (108, 110), (109, 111), (110, 112)] rfl rfl (by kernel_rfl) (by kernel_rfl) (by kernel_rfl) (by kernel_rfl) (by show IE.den (Ev l0 l1 l2 l3 0) _ = sumI l0 l1 l2 l3 3; simp (disch := omega) only [IE.den, den_add, den_and, wrap_u64, and_low, Ev, sumI, Int.ofNat_eq_natCast]; omega) (by kernel_rfl) (by kernel_rfl) h hM (by omega)
  · exact PP_no (g' := 17) P4_16_1 rfl rfl (by kernel_rfl) (by kernel_rfl) h hM (by omega) (by omega) (fun _ => by omega)
  · exact PP_no (g' := 16) P4_16_2 rfl rfl (by kernel_rfl) (by kernel_rfl) h hM (by omega) (by omega) (fun hn => absurd c0 (by rw [lt_min _ _ _ (by decide)]; simp [Ev]; omega))
theorem pk4_17 : Pk 4 17 := by
  intro l0 l1 l2 l3 n b0 b1 b2 b3 bn hp n0 M w hM R
  replace R : Rel _ n0 M t65 w := R
  have R1 := up (n := n) R (by kernel_rfl)
  refine (tree_rel hT_b mixed_ok hF_b (by decide) P4_17_r ⟨fun _ => ⟨fun h => big_no (env := Ev l0 l1 l2 l3 n) (i := 3) b3 h, fun _ => trivial⟩, fun _ => trivial⟩ R1.1 (.cons _ _ _ _ (.p0 64 hp (R1.2 64 hp (by kernel_rfl) hM)) (.cons _ _ _ _ (.i _ _) (.cons _ _ _ _ (.i _ (.v 4)) .nil)))).mono ?_
  rintro e w' ⟨r, rfl, hb, hat⟩
  replace hM := R1.2 64 hp (by kernel_rfl) hM
  clear R R1
  refine ⟨r, rfl, hb, ?_⟩
  rcases hat with (⟨c0, (⟨c1, h⟩ | ⟨c1, h⟩)⟩ | ⟨c0, h⟩)
  · exact h.elim
  · exact PP_fin (g' := 18) P4_17_0 103 104 (.bin .and .u64 (.wrap .u64 (.bin .add .u64 (.bin .and .u64 (.bin .and .u64 (.wrap .u64 (.bin .add .u64 (.bin .and .u64 (.bin .and .u64 (.wrap .u64 (.bin .add .u64 (.c (.ofNat 0)) (.bin .and .u64 (.bin .and .u64 (.v 0) (.c (.ofNat 4294967295))) (.c (.ofNat 4294967295))))) (.c (.ofNat 4294967295))) (.c (.ofNat 4294967295))) (.bin .and .u64 (.bin .and .u64 (.v 1) (.c (.ofNat 4294967295))) (.c (.ofNat 4294967295))))) (.c (.ofNat 4294967295))) (.c (.ofNat 4294967295))) (.bin .and .u64 (.bin .and .u64 (.v 2) (.c (.ofNat 4294967295))) (.c (.ofNat 4294967295))))) (.c (.ofNat 4294967295))) [(103, 105), (104, 106), (105, 107), (106, 108), (107, 109), (108, 110), (109, 111), (110, 112)] rfl rfl (by kernel_rfl) (by kernel_rfl) (by kernel_rfl) (by kernel_rfl) (by show IE.den (Ev l0 l1 l2 l3 0) _ = sumI l0 l1 l2 l3 3; simp (disch := omega) only [IE.den, den_add, den_and, wrap_u64, and_low, Ev, sumI, Int.ofNat_eq_natCast]; omega) (by kernel_rfl) (by kernel_rfl) h hM (by omega)
  · exact PP_no (g' := 17) P4_17_1 rfl rfl (by kernel_rfl) (by kernel_rfl) h hM (by omega) (by omega) (fun hn => absurd c0 (by rw [lt_min _ _ _ (by decide)]; simp [Ev]; omega))
theorem pk4_18 : Pk 4 18 := by
  intro l0 l1 l2 l3 n b0 b1 b2 b3 bn hp n0 M w hM R
  replace R : Rel _ n0 M t70 w := R
  have R1 := up (n := n) R (by kernel_rfl)
  refine (tree_rel hT_b mixed_ok hF_b (by decide) P4_18_r ⟨fun _ => ⟨fun _ => ⟨fun _ => ⟨fun _ => ⟨fun _ => ⟨fun _ => trivial, fun _ => trivial⟩, fun _ => trivial⟩, fun _ => trivial⟩, fun _ => trivial⟩, fun _ => trivial⟩, fun _ => trivial⟩ R1.1 (.cons _ _ _ _ (.p0 64 hp (R1.2 64 hp (by kernel_rfl) hM)) (.cons _ _ _ _ (.i _ _) (.cons _ _ _ _ (.i _ (.v 4)) .nil)))).mono ?_
  rintro e w' ⟨r, rfl, hb, hat⟩
  replace hM := R1.2 64 hp (by kernel_rfl) hM
  clear R R1
  refine ⟨r, rfl, hb, ?_⟩
  rcases hat with (⟨c0, (⟨c1, (⟨c2, (⟨c3, (⟨c4, (⟨c5, h⟩ | ⟨c5, h⟩)⟩ | ⟨c4, h⟩)⟩ | ⟨c3, h⟩)⟩ | ⟨c2, h⟩)⟩ | ⟨c1, h⟩)⟩ | ⟨c0, h⟩)
  · exact PP_fin (g' := 24) P4_18_0 103 104 (.bin .and .u64 (.wrap .u64 (.bin .add .u64 (.bin .and .u64 (.bin .and .u64 (.wrap .u64 (.bin .add .u64 (.bin .and .u64 (.bin .and .u64 (.wrap .u64 (.bin .add .u64 (.bin .and .u64 (.bin .and .u64 (.wrap .u64 (.bin .add .u64 (.c (.ofNat 0)) (.bin .and .u64 (.bin .and .u64 (.v 0) (.c (.ofNat 4294967295))) (.c (.ofNat 4294967295))))) (.c (.ofNat 4294967295))) (.c (.ofNat 4294967295))) (.bin .and .u64 (.bin .and .u64 (.v 1) (.c (.ofNat 4294967295))) (.c (.ofNat 4294967295))))) (.c (.ofNat 4294967295))) (.c (.ofNat 4294967295))) (.bin .and .u64 (.bin .and .u64 (.v 2) (.c (.ofNat 4294967295))) (.c (.ofNat 4294967295))))) (.c (.ofNat 4294967295))) (.c (.ofNat 4294967295))) (.bin .and .u64 (.bin .and .u64 (.v 3) (.c (.ofNat 4294967295))) (.c (.ofNat 4294967295))))) (.c (.ofNat 4294967295))) [(103, 105)] rfl rfl (by kernel_rfl) (by kernel_rfl) (by kernel_rfl) (by kernel_rfl) (by show IE.den (Ev l0 l1 l2 l3 0) _ = sumI l0 l1 l2 l3 4; simp (disch := omega) only [IE.den, den_add, den_and, wrap_u64, and_low, Ev, sumI, Int.ofNat_eq_natCast]; omega) (by kernel_rfl) (by kernel_rfl) h hM (by omega)
  · exact PP_no (g' := 23) P4_18_1 rfl rfl (by kernel_rfl) (by kernel_rfl) h hM (by omega) (by omega) (fun _ => by omega)
  · exact PP_no (g' := 22) P4_18_2 rfl rfl (by kernel_rfl) (by kernel_rfl) h hM (by omega) (by omega) (fun _ => by omega)
  · exact PP_no (g' := 21) P4_18_3 rfl rfl (by kernel_rfl) (by kernel_rfl) h hM (by omega) (by omega) (fun _ => by omega)
  · exact PP_no (g' := 20) P4_18_4 rfl rfl (by kernel_rfl) (by kernel_rfl) h hM (by omega) (by omega) (fun _ => by omega)
  · exact PP_no (g' := 19) P4_18_5 rfl rfl (by kernel_rfl) (by kernel_rfl) h hM (by omega) (by omega) (fun _ => by omega)
  · exact PP_no (g' := 18) P4_18_6 rfl rfl (by kernel_rfl) (by kernel_rfl) h hM (by omega) (by omega) (fun hn => absurd c0 (by rw [lt_min _ _ _ (by decide)]; simp [Ev]; omega))
theorem pk4_19 : Pk 4 19 := by
  intro l0 l1 l2 l3 n b0 b1 b2 b3 bn hp n0 M w hM R
  replace R : Rel _ n0 M t76 w := R
  have R1 := up (n := n) R (by kernel_rfl)
  refine (tree_rel hT_b mixed_ok hF_b (by decide) P4_19_r ⟨fun _ => ⟨fun _ => ⟨fun _ => ⟨fun _ => ⟨fun _ => trivial, fun _ => trivial⟩, fun _ => trivial⟩, fun _ => trivial⟩, fun _ => trivial⟩, fun _ => trivial⟩ R1.1 (.cons _ _ _ _ (.p0 64 hp (R1.2 64 hp (by kernel_rfl) hM)) (.cons _ _ _ _ (.i _ _) (.cons _ _ _ _ (.i _ (.v 4)) .nil)))).mono ?_
  rintro e w' ⟨r, rfl, hb, hat⟩
  replace hM := R1.2 64 hp (by kernel_rfl) hM
  clear R R1
  refine ⟨r, rfl, hb, ?_⟩
  rcases hat with (⟨c0, (⟨c1, (⟨c2, (⟨c3, (⟨c4, h⟩ | ⟨c4, h⟩)⟩ | ⟨c3, h⟩)⟩ | ⟨c2, h⟩)⟩ | ⟨c1, h⟩)⟩ | ⟨c0, h⟩)
  · exact PP_fin (g' := 24) P4_19_0 103 104 (.bin .and .u64 (.wrap .u64 (.bin .add .u64 (.bin .and .u64 (.bin .and .u64 (.wrap .u64 (.bin .add .u64 (.bin .and .u64 (.bin .and .u64 (.wrap .u64 (.bin .add .u64 (.bin .and .u64 (.bin .and .u64 (.wrap .u64 (.bin .add .u64 (.c (.ofNat 0)) (.bin .and .u64 (.bin .and .u64 (.v 0) (.c (.ofNat 4294967295))) (.c (.ofNat 4294967295))))) (.c (.ofNat 4294967295))) (.c (.ofNat 4294967295))) (.bin .and .u64 (.bin .and .u64 (.v 1) (.c (.ofNat 4294967295))) (.c (.ofNat 4294967295))))) (.c (.ofNat 4294967295))) (.c (.ofNat 4294967295))) (.bin .and .u64 (.bin .and .u64 (.v 2) (.c (.ofNat 4294967295))) (.c (.ofNat 4294967295))))) (.c (.ofNat 4294967295))) (.c (.ofNat 4294967295))) (.bin .and .u64 (.bin .and .u64 (.v 3) (.c (.ofNat 4294967295))) (.c (.ofNat 4294967295))))) (.c (.ofNat 4294967295))) [(103, 105)] rfl rfl (by kernel_rfl) (by kernel_rfl) (by kernel_rfl) (by kernel_rfl) (by show IE.den (Ev l0 l1 l2 l3 0) _ = sumI l0 l1 l2 l3 4; simp (disch := omega) only [IE.den, den_add, den_and, wrap_u64, and_low, Ev, sumI, Int.ofNat_eq_natCast]; omega) (by kernel_rfl) (by kernel_rfl) h hM (by omega)
  · exact PP_no (g' := 23) P4_19_1 rfl rfl (by kernel_rfl) (by kernel_rfl) h hM (by omega) (by omega) (fun _ => by omega)
  · exact PP_no (g' := 22) P4_19_2 rfl rfl (by kernel_rfl) (by kernel_rfl) h hM (by omega) (by omega) (fun _ => by omega)
  · exact PP_no (g' := 21) P4_19_3 rfl rfl (by kernel_rfl) (by kernel_rfl) h hM (by omega) (by omega) (fun _ => by omega)
  · exact PP_no (g' := 20) P4_19_4 rfl rfl (by kernel_rfl) (by kernel_rfl) h hM (by omega) (by omega) (fun _ => by omega)
  · exact PP_no (g' := 19) P4_19_5 rfl rfl (by kernel_rfl) (by kernel_rfl) h hM (by omega) (by omega) (fun hn => absurd c0 (by rw [lt_min _ _ _ (by decide)]; simp [Ev]; omega))
theorem pk4_20 : Pk 4 20 := by
  intro l0 l1 l2 l3 n b0 b1 b2 b3 bn hp n0 M w hM R
  replace R : Rel _ n0 M t75 w := R
  have R1 := up (n := n) R (by kernel_rfl)
  refine (tree_rel hT_b mixed_ok hF_b (by decide) P4_20_r ⟨fun _ => ⟨fun _ => ⟨fun _ => ⟨fun _ => trivial, fun _ => trivial⟩, fun _ => trivial⟩, fun _ => trivial⟩, fun _ => trivial⟩ R1.1 (.cons _ _ _ _ (.p0 64 hp (R1.2 64 hp (by kernel_rfl) hM)) (.cons _ _ _ _ (.i _ _) (.cons _ _ _ _ (.i _ (.v 4)) .nil)))).mono ?_
  rintro e w' ⟨r, rfl, hb, hat⟩
  replace hM := R1.2 64 hp (by kernel_rfl) hM
  clear R R1
  refine ⟨r, rfl, hb, ?_⟩
  rcases hat with (⟨c0, (⟨c1, (⟨c2, (⟨c3, h⟩ | ⟨c3, h⟩)⟩ | ⟨c2, h⟩)⟩ | ⟨c1, h⟩)⟩ | ⟨c0, h⟩)
  · exact PP_fin (g' := 24) P4_20_0 103 104 (.bin .and .u64 (.wrap .u64 (.bin .add .u64 (.bin .and .u64 (.bin .and .u64 (.wrap .u64 (.bin .add .u64 (.bin .and .u64 (.bin .and .u64 (.wrap .u64 (.bin .add .u64 (.bin .and .u64 (.bin .and .u64 (.wrap .u64 (.bin .add .u64 (.c (.ofNat 0)) (.bin .and .u64 (.bin .and .u64 (.v 0) (.c (.ofNat 4294967295))) (.c (.ofNat 4294967295))))) (.c (.ofNat 4294967295))) (.c (.ofNat 4294967295))) (.bin .and .u64 (.bin .and .u64 (.v 1) (.c (.ofNat 4294967295))) (.c (.ofNat 4294967295))))) (.c (.ofNat 4294967295))) (.c (.ofNat 4294967295))) (.bin .and .u64 (.bin .and .u64 (.v 2) (.c (.ofNat 4294967295))) (.c (.ofNat 4294967295))))) (.c (.ofNat 4294967295))) (.c (.ofNat 4294967295))) (.bin .and .u64 (.bin .and .u64 (.v 3) (.c (.ofNat 4294967295))) (.c (.ofNat 4294967295))))) (.c (.ofNat 4294967295))) [(103, 105)] rfl rfl (by kernel_rfl) (by kernel_rfl) (by kernel_rfl) (by kernel_rfl) (by show IE.den (Ev l0 l1 l2 l3 0) _ = sumI l0 l1 l2 l3 4; simp (disch := omega) only [IE.den, den_add, den_and, wrap_u64, and_low, Ev, sumI, Int.ofNat_eq_natCast]; omega) (by kernel_rfl) (by kernel_rfl) h hM (by omega)
  · exact PP_no (g' := 23) P4_20_1 rfl rfl (by kernel_rfl) (by kernel_rfl) h hM (by omega) (by omega) (fun _ => by omega)
  · exact PP_no (g' := 22) P4_20_2 rfl rfl (by kernel_rfl) (by kernel_rfl) h hM (by omega) (by omega) (fun _ => by omega)
  · exact PP_no (g' := 21) P4_20_3 rfl rfl (by kernel_rfl) (by kernel_rfl) h hM (by omega) (by omega) (fun _ => by omega)
  · exact PP_no (g' := 20) P4_20_4 rfl rfl (by kernel_rfl) (by kernel_rfl) h hM (by omega) (by omega) (fun hn => absurd c0 (by rw [lt_min _ _ _ (by decide)]; simp [Ev]; omega))
theorem pk4_21 : Pk 4 21 := by
  intro l0 l1 l2 l3 n b0 b1 b2 b3 bn hp n0 M w hM R
  replace R : Rel _ n0 M t74 w := R
  have R1 := up (n := n) R (by kernel_rfl)
  refine (tree_rel hT_b mixed_ok hF_b (by decide) P4_21_r ⟨fun _ => ⟨fun _ => ⟨fun _ => trivial, fun _ => trivial⟩, fun _ => trivial⟩, fun _ => trivial⟩ R1.1 (.cons _ _ _ _ (.p0 64 hp (R1.2 64 hp (by kernel_rfl) hM)) (.cons _ _ _ _ (.i _ _) (.cons _ _ _ _ (.i _ (.v 4)) .nil)))).mono ?_
  rintro e w' ⟨r, rfl, hb, hat⟩
  replace hM := R1.2 64 hp (by kernel_rfl) hM
  clear R R1
  refine ⟨r, rfl, hb, ?_⟩
  rcases hat with (⟨c0, (⟨c1, (⟨c2, h⟩ | ⟨c2, h⟩)⟩ | ⟨c1, h⟩)⟩ | ⟨c0, h⟩)
  · exact PP_fin (g' := 24) P4_21_0 103 104 (.bin .and .u64 (.wrap .u64 (.bin .add .u64 (.bin .and .u64 (.bin .and .u64 (.wrap .u64 (.bin .add .u64 (.bin .and .u64 (.bin .and .u64 (.wrap .u64 (.bin .add .u64 (.bin .and .u64 (.bin .and .u64 (.wrap .u64 (.bin .add .u64 (.c (.ofNat 0)) (.bin .and .u64 (.bin .and .u64 (.v 0) (.c (.ofNat 4294967295))) (.c (.ofNat 4294967295))))) (.c (.ofNat 4294967295))) (.c (.ofNat 4294967295))) (.bin .and .u64 (.bin .and .u64 (.v 1) (.c (.ofNat 4294967295))) (.c (.ofNat 4294967295))))) (.c (.ofNat 4294967295))) (.c (.ofNat 4294967295))) (.bin .and .u64 (.bin .and .u64 (.v 2) (.c (.ofNat 4294967295))) (.c (.ofNat 4294967295))))) (.c (.ofNat 4294967295))) (.c (.ofNat 4294967295))) (.bin .and .u64 (.bin .and .u64 (.v 3) (.c (.ofNat 4294967295))) (.c (.ofNat 4294967295))))) (.c (.ofNat 4294967295))) [(103, 105)] rfl rfl (by kernel_rfl) (by kernel_rfl) (by kernel_rfl) (by kernel_rfl) (by show IE.den (Ev l0 l1 l2 l3 0) _ = sumI l0 l1 l2 l3 4; simp (disch := omega) only [IE.den, den_add, den_and, wrap_u64, and_low, Ev, sumI, Int.ofNat_eq_natCast]; omega) (by kernel_rfl) (by kernel_rfl) h hM (by omega)
  · exact PP_no (g' := 23) P4_21_1 rfl rfl (by kernel_rfl) (by kernel_rfl) h hM (by omega) (by omega) (fun _ => by omega)
  · exact PP_no (g' := 22) P4_21_2 rfl rfl (by kernel_rfl) (by kernel_rfl) h hM (by omega) (by omega) (fun _ => by omega)
  · exact PP_no (g' := 21) P4_21_3 rfl rfl (by kernel_rfl) (by kernel_rfl) h hM (by omega) (by omega) (fun hn => absurd c0 (by rw [lt_min _ _ _ (by decide)]; simp [Ev]; omega))
theorem pk4_22 : Pk 4 22 := by
  intro l0 l1 l2 l3 n b0 b1 b2 b3 bn hp n0 M w hM R
  replace R : Rel _ n0 M t73 w := R
  have R1 := up (n := n) R (by kernel_rfl)
  refine (tree_rel hT_b mixed_ok hF_b (by decide) P4_22_r ⟨fun _ => ⟨fun _ => trivial, fun _ => trivial⟩, fun _ => trivial⟩ R1.1 (.cons _ _ _ _ (.p0 64 hp (R1.2 64 hp (by kernel_rfl) hM)) (.cons _ _ _ _ (.i _ _) (.cons _ _ _ _ (.i _ (.v 4)) .nil)))).mono ?_
  rintro e w' ⟨r, rfl, hb, hat⟩
  replace hM := R1.2 64 hp (by kernel_rfl) hM
  clear R R1
  refine ⟨r, rfl, hb, ?_⟩
  rcases hat with (⟨c0, (⟨c1, h⟩ | ⟨c1, h⟩)⟩ | ⟨c0, h⟩)
  · exact PP_fin (g' := 24) P4_22_0 103 104 (.bin .and .u64 (.wrap .u64 (.bin .add .u64 (.bin .and .u64 (.bin .and .u64 (.wrap .u64 (.bin .add .u64 (.bin .and .u64 (.bin .and .u64 (.wrap .u64 (.bin .add .u64 (.bin .and .u64 (.bin .and .u64 (.wrap .u64 (.bin .add .u64 (.c (.ofNat 0)) (.bin .and .u64 (.bin .and .u64 (.v 0) (.c (.ofNat 4294967295))) (.c (.ofNat 4294967295))))) (.c (.ofNat 4294967295))) (.c (.ofNat 4294967295))) (.bin .and .u64 (.bin .and .u64 (.v 1) (.c (.ofNat 4294967295))) (.c (.ofNat 4294967295))))) (.c (.ofNat 4294967295))) (.c (.ofNat 4294967295))) (.bin .and .u64 (.bin .and .u64 (.v 2) (.c (.ofNat 4294967295))) (.c (.ofNat 4294967295))))) (.c (.ofNat 4294967295))) (.c (.ofNat 4294967295))) (.bin .and .u64 (.bin .and .u64 (.v 3) (.c (.ofNat 4294967295))) (.c (.ofNat 4294967295))))) (.c (.ofNat 4294967295))) [(103, 105)] rfl rfl (by kernel_rfl) (by kernel_rfl) (by kernel_rfl) (by kernel_rfl) (by show IE.den (Ev l0 l1 l2 l3 0) _ = sumI l0 l1 l2 l3 4; simp (disch := omega) only [IE.den, den_add, den_and, wrap_u64, and_low, Ev, sumI, Int.ofNat_eq_natCast]; omega) (by kernel_rfl) (by kernel_rfl) h hM (by omega)
  · exact PP_no (g' := 23) P4_22_1 rfl rfl (by kernel_rfl) (by kernel_rfl) h hM (by omega) (by omega) (fun _ => by omega)
  · exact PP_no (g' := 22) P4_22_2 rfl rfl (by kernel_rfl) (by kernel_rfl) h hM (by omega) (by omega) (fun hn => absurd c0 (by rw [lt_min _ _ _ (by decide)]; simp [Ev]; omega))
theorem pk4_23 : Pk 4 23 := by
  intro l0 l1 l2 l3 n b0 b1 b2 b3 bn hp n0 M w hM R
  replace R : Rel _ n0 M t72 w := R
  have R1 := up (n := n) R (by kernel_rfl)
  refine (tree_rel hT_b mixed_ok hF_b (by decide) P4_23_r ⟨fun _ => trivial, fun _ => trivial⟩ R1.1 (.cons _ _ _ _ (.p0 64 hp (R1.2 64 hp (by kernel_rfl) hM)) (.cons _ _ _ _ (.i _ _) (.cons _ _ _ _ (.i _ (.v 4)) .nil)))).mono ?_
  rintro e w' ⟨r, rfl, hb, hat⟩
  replace hM := R1.2 64 hp (by kernel_rfl) hM
  clear R R1
  refine ⟨r, rfl, hb, ?_⟩
  rcases hat with (⟨c0, h⟩ | ⟨c0, h⟩)
  · exact PP_fin (g' := 24) P4_23_0 103 104 (.bin .and .u64 (.wrap .u64 (.bin .add .u64 (.bin .and .u64 (.bin .and .u64 (.wrap .u64 (.bin .add .u64 (.bin .and .u64 (.bin .and .u64 (.wrap .u64 (.bin .add .u64 (.bin .and .u64 (.bin .and .u64 (.wrap .u64 (.bin .add .u64 (.c (.ofNat 0)) (.bin .and .u64 (.bin .and .u64 (.v 0) (.c (.ofNat 4294967295))) (.c (.ofNat 4294967295))))) (.c (.ofNat 4294967295))) (.c (.ofNat 4294967295))) (.bin .and .u64 (.bin .and .u64 (.v 1) (.c (.ofNat 4294967295))) (.c (.ofNat 4294967295))))) (.c (.ofNat 4294967295))) (.c (.ofNat 4294967295))) (.bin .and .u64 (.bin .and .u64 (.v 2) (.c (.ofNat 4294967295))) (.c (.ofNat 4294967295))))) (.c (.ofNat 4294967295))) (.c (.ofNat 4294967295))) (.bin .and .u64 (.bin .and .u64 (.v 3) (.c (.ofNat 4294967295))) (.c (.ofNat 4294967295))))) (.c (.ofNat 4294967295))) [(103, 105)] rfl rfl (by kernel_rfl) (by kernel_rfl) (by kernel_rfl) (by kernel_rfl) (by show IE.den (Ev l0 l1 l2 l3 0) _ = sumI l0 l1 l2 l3 4; simp (disch := omega) only [IE.den, den_add, den_and, wrap_u64, and_low, Ev, sumI, Int.ofNat_eq_natCast]; omega) (by kernel_rfl) (by kernel_rfl) h hM (by omega)
  · exact PP_no (g' := 23) P4_23_1 rfl rfl (by kernel_rfl) (by kernel_rfl) h hM (by omega) (by omega) (fun hn => absurd c0 (by rw [lt_min _ _ _ (by decide)]; simp [Ev]; omega))
theorem pk_all (m g : Nat) (h1 : 1 ≤ m) (h4 : m ≤ 4) (hg : g < 6 * m) : Pk m g := by
  have hm : m = 1 ∨ m = 2 ∨ m = 3 ∨ m = 4 := by omega
  rcases hm with rfl | rfl | rfl | rfl
  · have h : g = 0 ∨ g = 1 ∨ g = 2 ∨ g = 3 ∨ g = 4 ∨ g = 5 := by omega
    rcases h with rfl | rfl | rfl | rfl | rfl | rfl
    · exact pk1_0
    · exact pk1_1
    · exact pk1_2
    · exact pk1_3
    · exact pk1_4
    · exact pk1_5
  · have h : g = 0 ∨ g = 1 ∨ g = 2 ∨ g = 3 ∨ g = 4 ∨ g = 5 ∨ g = 6 ∨ g = 7 ∨ g = 8 ∨ g = 9 ∨ g = 10 ∨ g = 11 := by omega
    rcases h with rfl | rfl | rfl | rfl | rfl | rfl | rfl | rfl | rfl | rfl | rfl | rfl
    · exact pk2_0
    · exact pk2_1
    · exact pk2_2
    · exact pk2_3
    · exact pk2_4
    · exact pk2_5
    · exact pk2_6
    · exact pk2_7
    · exact pk2_8
    · exact pk2_9
    · exact pk2_10
    · exact pk2_11
  · have h : g = 0 ∨ g = 1 ∨ g = 2 ∨ g = 3 ∨ g = 4 ∨ g = 5 ∨ g = 6 ∨ g = 7 ∨ g = 8 ∨ g = 9 ∨ g = 10 ∨ g = 11 ∨ g = 12 ∨ g = 13 ∨ g = 14 ∨ g = 15 ∨ g = 16 ∨ g = 17 := by omega
    rcases h with rfl | rfl | rfl | rfl | rfl | rfl | rfl | rfl | rfl | rfl | rfl | rfl | rfl | rfl | rfl | rfl | rfl | rfl
    · exact pk3_0
    · exact pk3_1
    · exact pk3_2
    · exact pk3_3
    · exact pk3_4
    · exact pk3_5
    · exact pk3_6
    · exact pk3_7
    · exact pk3_8
    · exact pk3_9
    · exact pk3_10
    · exact pk3_11
    · exact pk3_12
    · exact pk3_13
    · exact pk3_14
    · exact pk3_15
    · exact pk3_16
    · exact pk3_17
  · have h : g = 0 ∨ g = 1 ∨ g = 2 ∨ g = 3 ∨ g = 4 ∨ g = 5 ∨ g = 6 ∨ g = 7 ∨ g = 8 ∨ g = 9 ∨ g = 10 ∨ g = 11 ∨ g = 12 ∨ g = 13 ∨ g = 14 ∨ g = 15 ∨ g = 16 ∨ g = 17 ∨ g = 18 ∨ g = 19 ∨ g = 20 ∨ g = 21 ∨ g = 22 ∨ g = 23 := by omega
    rcases h with rfl | rfl | rfl | rfl | rfl | rfl | rfl | rfl | rfl | rfl | rfl | rfl | rfl | rfl | rfl | rfl | rfl | rfl | rfl | rfl | rfl | rfl | rfl | rfl
    · exact pk4_0
    · exact pk4_1
    · exact pk4_2
    · exact pk4_3
    · exact pk4_4
    · exact pk4_5
    · exact pk4_6
    · exact pk4_7
    · exact pk4_8
    · exact pk4_9
    · exact pk4_10
    · exact pk4_11
    · exact pk4_12
    · exact pk4_13
    · exact pk4_14
    · exact pk4_15
    · exact pk4_16
    · exact pk4_17
    · exact pk4_18
    · exact pk4_19
    · exact pk4_20
    · exact pk4_21
    · exact pk4_22
    · exact pk4_23
/-- One more waits. -/
theorem inv_c {l0 l1 l2 l3 : Int} (b0 : 0 ≤ l0 ∧ l0 < 256) (b1 : 0 ≤ l1 ∧ l1 < 256) (b2 : 0 ≤ l2 ∧ l2 < 256) (b3 : 0 ≤ l3 ∧ l3 < 256) (j : Nat) (hj : j < 4) {hp : Pl} {n0 : Old} {M : Mp} {w : World} (hM : M 64 = some hp) (R : Rel (Ev l0 l1 l2 l3 0) n0 M (TI j) w) (t : TypeId) :
    Calls Tryz.prog 10 #[.pointer (some ⟨hp.blk, hp.off, none⟩), .int .i64 0, .int .u64 (j : Int), .string ⟨#[105, 110, 99]⟩, .int .u64 0, .slice (some ⟨w.heap.size, 0, none⟩) 1 1] (w.alloc (.cells #[.int .u64 (Ev l0 l1 l2 l3 0 j)] t)) fun e w' =>
      e = .returned (.int .i64 0) ∧ Below n0.n w w' ∧ ∃ M', M' 64 = some hp ∧ Rel (Ev l0 l1 l2 l3 0) n0 M' (TI (j + 1)) w' := by
  have hb0 : Below n0.n w (w.alloc (.cells #[.int .u64 (Ev l0 l1 l2 l3 0 j)] t)) := push_below R.size _
  rcases (by omega : j = 0 ∨ j = 1 ∨ j = 2 ∨ j = 3) with rfl | rfl | rfl | rfl
  · have R1 := R.alloc (n := 900) (by kernel_rfl) (by decide) (cs := [(.i .u64 (.v 0), 1)]) (xs := [.int .u64 (Ev l0 l1 l2 l3 0 0)]) (.cons _ _ _ _ (.i _ _) .nil) 43 t 1
    have hM1 : M.add 900 ⟨w.heap.size, 0, 1, 1, false⟩ 64 = some hp := hM
    refine (tree_rel hT_b mixed_ok hF_b (by decide) Inv0_r ⟨fun h => big_no (env := Ev l0 l1 l2 l3 0) (i := 0) b0 h, fun _ => trivial⟩ R1 (.cons _ _ _ _ (.p0 64 hp hM1) (.cons _ _ _ _ (.i _ _) (.cons _ _ _ _ (.i _ _) (.cons _ _ _ _ (ofValue_ok _ _ rfl) (.cons _ _ _ _ (.i _ _) (.cons _ _ _ _ (.sl 900 0 1 1 1 ⟨w.heap.size, 0, 1, 1, false⟩ ⟨w.heap.size, 0, none⟩ rfl (by decide) (by simp) (.inl rfl) (by decide)) .nil))))))).mono ?_
    rintro e w' ⟨r, rfl, hb, hat⟩
    rcases hat with ⟨_, h⟩ | ⟨_, M', k, R', v⟩
    · exact h.elim
    · cases v.intv
      replace R' : Rel (envS (Ev l0 l1 l2 l3 0) (sAt [.v 0, .v 1, .v 2, .v 3])) n0 M' (TI (0 + 1)) w' := R'
      rw [ev_dn] at R'
      exact ⟨rfl, hb0.trans hb, M', k 64 hp (by kernel_rfl) hM1, R'⟩
  · have R1 := R.alloc (n := 900) (by kernel_rfl) (by decide) (cs := [(.i .u64 (.v 1), 1)]) (xs := [.int .u64 (Ev l0 l1 l2 l3 0 1)]) (.cons _ _ _ _ (.i _ _) .nil) 43 t 1
    have hM1 : M.add 900 ⟨w.heap.size, 0, 1, 1, false⟩ 64 = some hp := hM
    refine (tree_rel hT_b mixed_ok hF_b (by decide) Inv1_r ⟨fun h => big_no (env := Ev l0 l1 l2 l3 0) (i := 1) b1 h, fun _ => trivial⟩ R1 (.cons _ _ _ _ (.p0 64 hp hM1) (.cons _ _ _ _ (.i _ _) (.cons _ _ _ _ (.i _ _) (.cons _ _ _ _ (ofValue_ok _ _ rfl) (.cons _ _ _ _ (.i _ _) (.cons _ _ _ _ (.sl 900 0 1 1 1 ⟨w.heap.size, 0, 1, 1, false⟩ ⟨w.heap.size, 0, none⟩ rfl (by decide) (by simp) (.inl rfl) (by decide)) .nil))))))).mono ?_
    rintro e w' ⟨r, rfl, hb, hat⟩
    rcases hat with ⟨_, h⟩ | ⟨_, M', k, R', v⟩
    · exact h.elim
    · cases v.intv
      replace R' : Rel (envS (Ev l0 l1 l2 l3 0) (sAt [.v 0, .v 1, .v 2, .v 3])) n0 M' (TI (1 + 1)) w' := R'
      rw [ev_dn] at R'
      exact ⟨rfl, hb0.trans hb, M', k 64 hp (by kernel_rfl) hM1, R'⟩
  · have R1 := R.alloc (n := 900) (by kernel_rfl) (by decide) (cs := [(.i .u64 (.v 2), 1)]) (xs := [.int .u64 (Ev l0 l1 l2 l3 0 2)]) (.cons _ _ _ _ (.i _ _) .nil) 43 t 1
    have hM1 : M.add 900 ⟨w.heap.size, 0, 1, 1, false⟩ 64 = some hp := hM
    refine (tree_rel hT_b mixed_ok hF_b (by decide) Inv2_r ⟨fun h => big_no (env := Ev l0 l1 l2 l3 0) (i := 2) b2 h, fun _ => trivial⟩ R1 (.cons _ _ _ _ (.p0 64 hp hM1) (.cons _ _ _ _ (.i _ _) (.cons _ _ _ _ (.i _ _) (.cons _ _ _ _ (ofValue_ok _ _ rfl) (.cons _ _ _ _ (.i _ _) (.cons _ _ _ _ (.sl 900 0 1 1 1 ⟨w.heap.size, 0, 1, 1, false⟩ ⟨w.heap.size, 0, none⟩ rfl (by decide) (by simp) (.inl rfl) (by decide)) .nil))))))).mono ?_
    rintro e w' ⟨r, rfl, hb, hat⟩
    rcases hat with ⟨_, h⟩ | ⟨_, M', k, R', v⟩
    · exact h.elim
    · cases v.intv
      replace R' : Rel (envS (Ev l0 l1 l2 l3 0) (sAt [.v 0, .v 1, .v 2, .v 3])) n0 M' (TI (2 + 1)) w' := R'
      rw [ev_dn] at R'
      exact ⟨rfl, hb0.trans hb, M', k 64 hp (by kernel_rfl) hM1, R'⟩
  · have R1 := R.alloc (n := 900) (by kernel_rfl) (by decide) (cs := [(.i .u64 (.v 3), 1)]) (xs := [.int .u64 (Ev l0 l1 l2 l3 0 3)]) (.cons _ _ _ _ (.i _ _) .nil) 43 t 1
    have hM1 : M.add 900 ⟨w.heap.size, 0, 1, 1, false⟩ 64 = some hp := hM
    refine (tree_rel hT_b mixed_ok hF_b (by decide) Inv3_r ⟨fun h => big_no (env := Ev l0 l1 l2 l3 0) (i := 3) b3 h, fun _ => trivial⟩ R1 (.cons _ _ _ _ (.p0 64 hp hM1) (.cons _ _ _ _ (.i _ _) (.cons _ _ _ _ (.i _ _) (.cons _ _ _ _ (ofValue_ok _ _ rfl) (.cons _ _ _ _ (.i _ _) (.cons _ _ _ _ (.sl 900 0 1 1 1 ⟨w.heap.size, 0, 1, 1, false⟩ ⟨w.heap.size, 0, none⟩ rfl (by decide) (by simp) (.inl rfl) (by decide)) .nil))))))).mono ?_
    rintro e w' ⟨r, rfl, hb, hat⟩
    rcases hat with ⟨_, h⟩ | ⟨_, M', k, R', v⟩
    · exact h.elim
    · cases v.intv
      replace R' : Rel (envS (Ev l0 l1 l2 l3 0) (sAt [.v 0, .v 1, .v 2, .v 3])) n0 M' (TI (3 + 1)) w' := R'
      rw [ev_dn] at R'
      exact ⟨rfl, hb0.trans hb, M', k 64 hp (by kernel_rfl) hM1, R'⟩
end Go.Vm.Ho
