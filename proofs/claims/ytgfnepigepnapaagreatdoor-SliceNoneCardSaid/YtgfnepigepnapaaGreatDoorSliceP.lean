/- The law SliceNone: what a step of the document's does, from each state of the work; what copies and compares do there. -/
import Derived.Test.YtgfnepigepnapaaGreatDoorSlR0
set_option linter.unusedVariables false
set_option maxRecDepth 100000
namespace Go.Vm.Sl
open Go.Vm Go.Proofs Go.RowKit
def StepR (k : Nat) : Prop := ∀ (env : Nat → Int) (n0 : Old) (M : Mp) (w : World) (ip cp : Pl), M 64 = some ip → M 97 = some cp → Rel env n0 M (TQ k) w →
  Calls Tryz.prog 37 #[.pointer (some ⟨ip.blk, ip.off, none⟩), .pointer (some ⟨cp.blk, cp.off, none⟩)] w fun e w' => e = .returned (.tuple #[]) ∧ Below n0.n w w' ∧
    ∃ k' env' M', k' < 33 ∧ M' 64 = some ip ∧ M' 97 = some cp ∧ Rel env' n0 M' (TQ k') w'
def CopyR (k : Nat) : Prop := ∀ (env : Nat → Int) (n0 : Old) (M : Mp) (w : World) (ip cp : Pl), M 64 = some ip → M 97 = some cp → Rel env n0 M (TQ k) w → ∀ n1, (∀ b pl, M b = some pl → pl.blk < n1) →
  Calls Tryz.prog 23 #[.pointer (some ⟨ip.blk, ip.off, none⟩)] w fun e w' => ∃ x env' M', e = .returned x ∧ Below w.heap.size w w' ∧ Rel env' (oldOf w) M' (TB k) w' ∧ VR env' M' (.p (some (64, 0))) x ∧ M' 4 = some ip ∧ M' 37 = some cp ∧ (∀ b pl, M' b = some pl → b < RO → pl.blk < n1)
def SameCR (k : Nat) : Prop := ∀ (env : Nat → Int) (n0 : Old) (M : Mp) (w : World) (xs : List Value), Rel env n0 M (TC k) w → VRs env M (CB k) xs →
  Calls Tryz.prog 25 #[.agg xs.toArray, .agg xs.toArray] w fun e w' => e = .returned (.bool true) ∧ Below n0.n w w'
def SameIR (k : Nat) : Prop := ∀ (env : Nat → Int) (n0 : Old) (M : Mp) (w : World) (ip : Pl) (x : Value), Rel env n0 M (TC k) w → M 4 = some ip → VR env M (.p (some (54, 0))) x →
  Calls Tryz.prog 26 #[.pointer (some ⟨ip.blk, ip.off, none⟩), x] w fun e w' => e = .returned (.bool true) ∧ Below n0.n w w'
theorem fin {env : Nat → Int} {n0 : Old} {M : Mp} {w w' : World} {ip cp : Pl} {r : Value} {lf : Lf} (k' : Nat) (hk : k' < 33) (hv : lf.v = .tup []) (h1 : sg lf.T lf.l 64 = some 64) (h2 : sg lf.T lf.l 97 = some 97) (hT : lf.T = TQ k') (hb : Below n0.n w w') (h : LfR env n0 M r w' lf) (hi : M 64 = some ip) (hc : M 97 = some cp) :
    Ending.returned r = .returned (.tuple #[]) ∧ Below n0.n w w' ∧ ∃ k' env' M', k' < 33 ∧ M' 64 = some ip ∧ M' 97 = some cp ∧ Rel env' n0 M' (TQ k') w' := by
  obtain ⟨M', k, R, v⟩ := h
  rw [hv] at v
  obtain ⟨xs, rfl, q⟩ := v.tupv
  cases q.unnil
  rw [hT] at R
  exact ⟨rfl, hb, k', _, M', hk, k 64 ip h1 hi, k 97 cp h2 hc, R⟩
noncomputable def roOk (T T0 : Tr Ob) (l : List (Nat × Nat)) : Bool := allT (fun b _ => Nat.ble RO b || (sameO (sg T l b) b && hasB (T0.get b))) T 0 1
theorem roOk_ok {T T0 : Tr Ob} {l : List (Nat × Nat)} (h : roOk T T0 l = true) {b : Nat} {ob : Ob} (hg : T.get b = some ob) (hb : b < RO) : sg T l b = some b ∧ ∃ ob2, T0.get b = some ob2 := by
  have := allT_get h hg
  have e : Nat.ble RO b = false := by
    cases e : Nat.ble RO b with
    | false => rfl
    | true => have := Nat.le_of_ble_eq_true e; omega
  simp only [e, Bool.false_or, Bool.and_eq_true] at this
  refine ⟨sameO_eq this.1, ?_⟩
  cases hx : T0.get b with
  | none => rw [hx] at this; cases this.2
  | some ob2 => exact ⟨ob2, rfl⟩
theorem copyR {k : Nat} {lf : Lf} {T : Tr Ob} (hr : CoversL (fun pc => evCall { cxb with pc := pc } 100000 23 [.p (some (4, 0))] (.mk T 1000 .off)) (.leaf lf) []) (ht : TR k = T) (hc : chkR (TR k) (TQ k) (LR k) (fun i => .v i) = true) (h4 : (sg (TR k) (LR k) 4, sg (TR k) (LR k) 37) = (some 64, some 97))
    (hv : lf.v = .p (some (64, 0))) (hT : lf.T = TB k) (h1 : sg lf.T lf.l 4 = some 4) (h2 : sg lf.T lf.l 37 = some 37) (h3 : roOk lf.T (TR k) lf.l = true) : CopyR k := by
  subst ht
  intro env n0 M w ip cp hi hcp R n1 hn1
  injection h4 with h4 h5
  have R1 := R.toldR hc
  have m4 : mpS (sg (TR k) (LR k)) M 4 = some ip := by show (sg (TR k) (LR k) 4).bind M = _; rw [h4]; exact hi
  have m37 : mpS (sg (TR k) (LR k)) M 37 = some cp := by show (sg (TR k) (LR k) 37).bind M = _; rw [h5]; exact hcp
  refine (tree_rel hT_b mixed_ok hF_b (by decide) hr trivial R1 (.cons _ _ _ _ (.p0 4 ip m4) .nil)).mono ?_
  rintro e w' ⟨r, rfl, hb, M', q, R', v⟩
  rw [hv] at v
  rw [hT] at R'
  refine ⟨r, _, M', rfl, hb, R', v, q 4 ip h1 m4, q 37 cp h2 m37, fun b pl hM hb => ?_⟩
  cases hg : (TB k).get b with
  | none => rw [R'.dom b hg] at hM; cases hM
  | some ob =>
    rw [← hT] at hg
    obtain ⟨e1, ob2, e2⟩ := roOk_ok h3 hg hb
    obtain ⟨pl2, z1, _⟩ := R1.row b ob2 e2
    have := q b pl2 e1 z1
    rw [this] at hM
    cases hM
    have z1 : (sg (TR k) (LR k) b).bind M = some pl := z1
    cases hs : sg (TR k) (LR k) b with
    | none => rw [hs] at z1; cases z1
    | some c => rw [hs] at z1; exact hn1 c pl z1
theorem sameCR {k : Nat} {lf : Lf} (hr : CoversL (fun pc => evCall { cxb with pc := pc } 100000 25 [.agg (CB k), .agg (CB k)] (.mk (TC k) 1000 .off)) (.leaf lf) []) (hv : lf.v = .b (.c true)) : SameCR k := by
  intro env n0 M w xs R hx
  refine (tree_rel hT_b mixed_ok hF_b (by decide) hr trivial R (.cons _ _ _ _ (.agg _ _ (by simpa using hx)) (.cons _ _ _ _ (.agg _ _ (by simpa using hx)) .nil))).mono ?_
  rintro e w' ⟨r, rfl, hb, M', q, R', v⟩
  rw [hv] at v
  cases v.boolv
  exact ⟨rfl, hb⟩
theorem sameIR {k : Nat} {lf : Lf} (hr : CoversL (fun pc => evCall { cxb with pc := pc } 100000 26 [.p (some (4, 0)), .p (some (54, 0))] (.mk (TC k) 1000 .off)) (.leaf lf) []) (hv : lf.v = .b (.c true)) : SameIR k := by
  intro env n0 M w ip x R hi hx
  refine (tree_rel hT_b mixed_ok hF_b (by decide) hr trivial R (.cons _ _ _ _ (.p0 4 ip hi) (.cons _ _ _ _ hx .nil))).mono ?_
  rintro e w' ⟨r, rfl, hb, M', q, R', v⟩
  rw [hv] at v
  cases v.boolv
  exact ⟨rfl, hb⟩
noncomputable section
def isSlO : Option V → Bool
  | some (.sl _ _ _) => true
  | _ => false
def isBO : Option V → Bool
  | some (.b _) => true
  | _ => false
def isIO : Option V → Bool
  | some (.i .i64 _) => true
  | _ => false
def okCfg (h : Tr Ob) (b : Nat) : Bool := isSlO (cellT h b 0) && isSlO (cellT h b 1) && isBO (cellT h b 2) && isIO (cellT h b 3) && isSlO (cellT h b 4)
end
theorem st0 : StepR 0 := by
  intro env n0 M w ip cp hi hc R
  replace R : Rel env n0 M t4 w := R
  refine (tree_rel hT_b mixed_ok hF_b (by decide) Q4_r trivial R (.cons _ _ _ _ (.p0 64 ip hi) (.cons _ _ _ _ (.p0 97 cp hc) .nil))).mono ?_
  rintro e w' ⟨r, rfl, hb, hat⟩
  have h := hat
  · exact fin 1 (by decide) rfl (by kernel_rfl) (by kernel_rfl) (by kernel_rfl) hb (lf := Q4_0) h hi hc
theorem st1 : StepR 1 := by
  intro env n0 M w ip cp hi hc R
  replace R : Rel env n0 M t5 w := R
  refine (tree_rel hT_b mixed_ok hF_b (by decide) Q5_r trivial R (.cons _ _ _ _ (.p0 64 ip hi) (.cons _ _ _ _ (.p0 97 cp hc) .nil))).mono ?_
  rintro e w' ⟨r, rfl, hb, hat⟩
  have h := hat
  · exact fin 2 (by decide) rfl (by kernel_rfl) (by kernel_rfl) (by kernel_rfl) hb (lf := Q5_0) h hi hc
theorem st2 : StepR 2 := by
  intro env n0 M w ip cp hi hc R
  replace R : Rel env n0 M t6 w := R
  refine (tree_rel hT_b mixed_ok hF_b (by decide) Q6_r trivial R (.cons _ _ _ _ (.p0 64 ip hi) (.cons _ _ _ _ (.p0 97 cp hc) .nil))).mono ?_
  rintro e w' ⟨r, rfl, hb, hat⟩
  have h := hat
  · exact fin 3 (by decide) rfl (by kernel_rfl) (by kernel_rfl) (by kernel_rfl) hb (lf := Q6_0) h hi hc
theorem st3 : StepR 3 := by
  intro env n0 M w ip cp hi hc R
  replace R : Rel env n0 M t7 w := R
  refine (tree_rel hT_b mixed_ok hF_b (by decide) Q7_r ⟨fun _ => trivial, fun _ => trivial⟩ R (.cons _ _ _ _ (.p0 64 ip hi) (.cons _ _ _ _ (.p0 97 cp hc) .nil))).mono ?_
  rintro e w' ⟨r, rfl, hb, hat⟩
  rcases hat with (⟨c0, h⟩ | ⟨c0, h⟩)
  · exact fin 4 (by decide) rfl (by kernel_rfl) (by kernel_rfl) (by kernel_rfl) hb (lf := Q7_0) h hi hc
  · exact fin 5 (by decide) rfl (by kernel_rfl) (by kernel_rfl) (by kernel_rfl) hb (lf := Q7_1) h hi hc
theorem st4 : StepR 4 := by
  intro env n0 M w ip cp hi hc R
  replace R : Rel env n0 M t8 w := R
  refine (tree_rel hT_b mixed_ok hF_b (by decide) Q8_r trivial R (.cons _ _ _ _ (.p0 64 ip hi) (.cons _ _ _ _ (.p0 97 cp hc) .nil))).mono ?_
  rintro e w' ⟨r, rfl, hb, hat⟩
  have h := hat
  · exact fin 6 (by decide) rfl (by kernel_rfl) (by kernel_rfl) (by kernel_rfl) hb (lf := Q8_0) h hi hc
theorem st5 : StepR 5 := by
  intro env n0 M w ip cp hi hc R
  replace R : Rel env n0 M t9 w := R
  refine (tree_rel hT_b mixed_ok hF_b (by decide) Q9_r trivial R (.cons _ _ _ _ (.p0 64 ip hi) (.cons _ _ _ _ (.p0 97 cp hc) .nil))).mono ?_
  rintro e w' ⟨r, rfl, hb, hat⟩
  have h := hat
  · exact fin 7 (by decide) rfl (by kernel_rfl) (by kernel_rfl) (by kernel_rfl) hb (lf := Q9_0) h hi hc
theorem st6 : StepR 6 := by
  intro env n0 M w ip cp hi hc R
  replace R : Rel env n0 M t10 w := R
  refine (tree_rel hT_b mixed_ok hF_b (by decide) Q10_r trivial R (.cons _ _ _ _ (.p0 64 ip hi) (.cons _ _ _ _ (.p0 97 cp hc) .nil))).mono ?_
  rintro e w' ⟨r, rfl, hb, hat⟩
  have h := hat
  · exact fin 8 (by decide) rfl (by kernel_rfl) (by kernel_rfl) (by kernel_rfl) hb (lf := Q10_0) h hi hc
theorem st7 : StepR 7 := by
  intro env n0 M w ip cp hi hc R
  replace R : Rel env n0 M t11 w := R
  refine (tree_rel hT_b mixed_ok hF_b (by decide) Q11_r trivial R (.cons _ _ _ _ (.p0 64 ip hi) (.cons _ _ _ _ (.p0 97 cp hc) .nil))).mono ?_
  rintro e w' ⟨r, rfl, hb, hat⟩
  have h := hat
  · exact fin 9 (by decide) rfl (by kernel_rfl) (by kernel_rfl) (by kernel_rfl) hb (lf := Q11_0) h hi hc
theorem st8 : StepR 8 := by
  intro env n0 M w ip cp hi hc R
  replace R : Rel env n0 M t12 w := R
  refine (tree_rel hT_b mixed_ok hF_b (by decide) Q12_r trivial R (.cons _ _ _ _ (.p0 64 ip hi) (.cons _ _ _ _ (.p0 97 cp hc) .nil))).mono ?_
  rintro e w' ⟨r, rfl, hb, hat⟩
  have h := hat
  · exact fin 10 (by decide) rfl (by kernel_rfl) (by kernel_rfl) (by kernel_rfl) hb (lf := Q12_0) h hi hc
theorem st9 : StepR 9 := by
  intro env n0 M w ip cp hi hc R
  replace R : Rel env n0 M t13 w := R
  refine (tree_rel hT_b mixed_ok hF_b (by decide) Q13_r trivial R (.cons _ _ _ _ (.p0 64 ip hi) (.cons _ _ _ _ (.p0 97 cp hc) .nil))).mono ?_
  rintro e w' ⟨r, rfl, hb, hat⟩
  have h := hat
  · exact fin 11 (by decide) rfl (by kernel_rfl) (by kernel_rfl) (by kernel_rfl) hb (lf := Q13_0) h hi hc
theorem st10 : StepR 10 := by
  intro env n0 M w ip cp hi hc R
  replace R : Rel env n0 M t14 w := R
  refine (tree_rel hT_b mixed_ok hF_b (by decide) Q14_r trivial R (.cons _ _ _ _ (.p0 64 ip hi) (.cons _ _ _ _ (.p0 97 cp hc) .nil))).mono ?_
  rintro e w' ⟨r, rfl, hb, hat⟩
  have h := hat
  · exact fin 10 (by decide) rfl (by kernel_rfl) (by kernel_rfl) (by kernel_rfl) hb (lf := Q14_0) h hi hc
theorem st11 : StepR 11 := by
  intro env n0 M w ip cp hi hc R
  replace R : Rel env n0 M t15 w := R
  refine (tree_rel hT_b mixed_ok hF_b (by decide) Q15_r trivial R (.cons _ _ _ _ (.p0 64 ip hi) (.cons _ _ _ _ (.p0 97 cp hc) .nil))).mono ?_
  rintro e w' ⟨r, rfl, hb, hat⟩
  have h := hat
  · exact fin 12 (by decide) rfl (by kernel_rfl) (by kernel_rfl) (by kernel_rfl) hb (lf := Q15_0) h hi hc
theorem st12 : StepR 12 := by
  intro env n0 M w ip cp hi hc R
  replace R : Rel env n0 M t16 w := R
  refine (tree_rel hT_b mixed_ok hF_b (by decide) Q16_r trivial R (.cons _ _ _ _ (.p0 64 ip hi) (.cons _ _ _ _ (.p0 97 cp hc) .nil))).mono ?_
  rintro e w' ⟨r, rfl, hb, hat⟩
  have h := hat
  · exact fin 13 (by decide) rfl (by kernel_rfl) (by kernel_rfl) (by kernel_rfl) hb (lf := Q16_0) h hi hc
theorem st13 : StepR 13 := by
  intro env n0 M w ip cp hi hc R
  replace R : Rel env n0 M t17 w := R
  refine (tree_rel hT_b mixed_ok hF_b (by decide) Q17_r trivial R (.cons _ _ _ _ (.p0 64 ip hi) (.cons _ _ _ _ (.p0 97 cp hc) .nil))).mono ?_
  rintro e w' ⟨r, rfl, hb, hat⟩
  have h := hat
  · exact fin 14 (by decide) rfl (by kernel_rfl) (by kernel_rfl) (by kernel_rfl) hb (lf := Q17_0) h hi hc
theorem st14 : StepR 14 := by
  intro env n0 M w ip cp hi hc R
  replace R : Rel env n0 M t18 w := R
  refine (tree_rel hT_b mixed_ok hF_b (by decide) Q18_r trivial R (.cons _ _ _ _ (.p0 64 ip hi) (.cons _ _ _ _ (.p0 97 cp hc) .nil))).mono ?_
  rintro e w' ⟨r, rfl, hb, hat⟩
  have h := hat
  · exact fin 15 (by decide) rfl (by kernel_rfl) (by kernel_rfl) (by kernel_rfl) hb (lf := Q18_0) h hi hc
theorem st15 : StepR 15 := by
  intro env n0 M w ip cp hi hc R
  replace R : Rel env n0 M t19 w := R
  refine (tree_rel hT_b mixed_ok hF_b (by decide) Q19_r trivial R (.cons _ _ _ _ (.p0 64 ip hi) (.cons _ _ _ _ (.p0 97 cp hc) .nil))).mono ?_
  rintro e w' ⟨r, rfl, hb, hat⟩
  have h := hat
  · exact fin 16 (by decide) rfl (by kernel_rfl) (by kernel_rfl) (by kernel_rfl) hb (lf := Q19_0) h hi hc
theorem st16 : StepR 16 := by
  intro env n0 M w ip cp hi hc R
  replace R : Rel env n0 M t20 w := R
  refine (tree_rel hT_b mixed_ok hF_b (by decide) Q20_r trivial R (.cons _ _ _ _ (.p0 64 ip hi) (.cons _ _ _ _ (.p0 97 cp hc) .nil))).mono ?_
  rintro e w' ⟨r, rfl, hb, hat⟩
  have h := hat
  · exact fin 17 (by decide) rfl (by kernel_rfl) (by kernel_rfl) (by kernel_rfl) hb (lf := Q20_0) h hi hc
theorem st17 : StepR 17 := by
  intro env n0 M w ip cp hi hc R
  replace R : Rel env n0 M t21 w := R
  refine (tree_rel hT_b mixed_ok hF_b (by decide) Q21_r trivial R (.cons _ _ _ _ (.p0 64 ip hi) (.cons _ _ _ _ (.p0 97 cp hc) .nil))).mono ?_
  rintro e w' ⟨r, rfl, hb, hat⟩
  have h := hat
  · exact fin 18 (by decide) rfl (by kernel_rfl) (by kernel_rfl) (by kernel_rfl) hb (lf := Q21_0) h hi hc
theorem st18 : StepR 18 := by
  intro env n0 M w ip cp hi hc R
  replace R : Rel env n0 M t22 w := R
  refine (tree_rel hT_b mixed_ok hF_b (by decide) Q22_r trivial R (.cons _ _ _ _ (.p0 64 ip hi) (.cons _ _ _ _ (.p0 97 cp hc) .nil))).mono ?_
  rintro e w' ⟨r, rfl, hb, hat⟩
  have h := hat
  · exact fin 19 (by decide) rfl (by kernel_rfl) (by kernel_rfl) (by kernel_rfl) hb (lf := Q22_0) h hi hc
theorem st19 : StepR 19 := by
  intro env n0 M w ip cp hi hc R
  replace R : Rel env n0 M t23 w := R
  refine (tree_rel hT_b mixed_ok hF_b (by decide) Q23_r ⟨fun _ => trivial, fun _ => trivial⟩ R (.cons _ _ _ _ (.p0 64 ip hi) (.cons _ _ _ _ (.p0 97 cp hc) .nil))).mono ?_
  rintro e w' ⟨r, rfl, hb, hat⟩
  rcases hat with (⟨c0, h⟩ | ⟨c0, h⟩)
  · exact fin 20 (by decide) rfl (by kernel_rfl) (by kernel_rfl) (by kernel_rfl) hb (lf := Q23_0) h hi hc
  · exact fin 21 (by decide) rfl (by kernel_rfl) (by kernel_rfl) (by kernel_rfl) hb (lf := Q23_1) h hi hc
theorem st20 : StepR 20 := by
  intro env n0 M w ip cp hi hc R
  replace R : Rel env n0 M t24 w := R
  refine (tree_rel hT_b mixed_ok hF_b (by decide) Q24_r trivial R (.cons _ _ _ _ (.p0 64 ip hi) (.cons _ _ _ _ (.p0 97 cp hc) .nil))).mono ?_
  rintro e w' ⟨r, rfl, hb, hat⟩
  have h := hat
  · exact fin 22 (by decide) rfl (by kernel_rfl) (by kernel_rfl) (by kernel_rfl) hb (lf := Q24_0) h hi hc
theorem st21 : StepR 21 := by
  intro env n0 M w ip cp hi hc R
  replace R : Rel env n0 M t25 w := R
  refine (tree_rel hT_b mixed_ok hF_b (by decide) Q25_r trivial R (.cons _ _ _ _ (.p0 64 ip hi) (.cons _ _ _ _ (.p0 97 cp hc) .nil))).mono ?_
  rintro e w' ⟨r, rfl, hb, hat⟩
  have h := hat
  · exact fin 23 (by decide) rfl (by kernel_rfl) (by kernel_rfl) (by kernel_rfl) hb (lf := Q25_0) h hi hc
theorem st22 : StepR 22 := by
  intro env n0 M w ip cp hi hc R
  replace R : Rel env n0 M t26 w := R
  refine (tree_rel hT_b mixed_ok hF_b (by decide) Q26_r trivial R (.cons _ _ _ _ (.p0 64 ip hi) (.cons _ _ _ _ (.p0 97 cp hc) .nil))).mono ?_
  rintro e w' ⟨r, rfl, hb, hat⟩
  have h := hat
  · exact fin 24 (by decide) rfl (by kernel_rfl) (by kernel_rfl) (by kernel_rfl) hb (lf := Q26_0) h hi hc
theorem st23 : StepR 23 := by
  intro env n0 M w ip cp hi hc R
  replace R : Rel env n0 M t27 w := R
  refine (tree_rel hT_b mixed_ok hF_b (by decide) Q27_r trivial R (.cons _ _ _ _ (.p0 64 ip hi) (.cons _ _ _ _ (.p0 97 cp hc) .nil))).mono ?_
  rintro e w' ⟨r, rfl, hb, hat⟩
  have h := hat
  · exact fin 25 (by decide) rfl (by kernel_rfl) (by kernel_rfl) (by kernel_rfl) hb (lf := Q27_0) h hi hc
theorem st24 : StepR 24 := by
  intro env n0 M w ip cp hi hc R
  replace R : Rel env n0 M t28 w := R
  refine (tree_rel hT_b mixed_ok hF_b (by decide) Q28_r trivial R (.cons _ _ _ _ (.p0 64 ip hi) (.cons _ _ _ _ (.p0 97 cp hc) .nil))).mono ?_
  rintro e w' ⟨r, rfl, hb, hat⟩
  have h := hat
  · exact fin 26 (by decide) rfl (by kernel_rfl) (by kernel_rfl) (by kernel_rfl) hb (lf := Q28_0) h hi hc
theorem st25 : StepR 25 := by
  intro env n0 M w ip cp hi hc R
  replace R : Rel env n0 M t29 w := R
  refine (tree_rel hT_b mixed_ok hF_b (by decide) Q29_r trivial R (.cons _ _ _ _ (.p0 64 ip hi) (.cons _ _ _ _ (.p0 97 cp hc) .nil))).mono ?_
  rintro e w' ⟨r, rfl, hb, hat⟩
  have h := hat
  · exact fin 27 (by decide) rfl (by kernel_rfl) (by kernel_rfl) (by kernel_rfl) hb (lf := Q29_0) h hi hc
theorem st26 : StepR 26 := by
  intro env n0 M w ip cp hi hc R
  replace R : Rel env n0 M t30 w := R
  refine (tree_rel hT_b mixed_ok hF_b (by decide) Q30_r trivial R (.cons _ _ _ _ (.p0 64 ip hi) (.cons _ _ _ _ (.p0 97 cp hc) .nil))).mono ?_
  rintro e w' ⟨r, rfl, hb, hat⟩
  have h := hat
  · exact fin 26 (by decide) rfl (by kernel_rfl) (by kernel_rfl) (by kernel_rfl) hb (lf := Q30_0) h hi hc
theorem st27 : StepR 27 := by
  intro env n0 M w ip cp hi hc R
  replace R : Rel env n0 M t31 w := R
  refine (tree_rel hT_b mixed_ok hF_b (by decide) Q31_r trivial R (.cons _ _ _ _ (.p0 64 ip hi) (.cons _ _ _ _ (.p0 97 cp hc) .nil))).mono ?_
  rintro e w' ⟨r, rfl, hb, hat⟩
  have h := hat
  · exact fin 28 (by decide) rfl (by kernel_rfl) (by kernel_rfl) (by kernel_rfl) hb (lf := Q31_0) h hi hc
theorem st28 : StepR 28 := by
  intro env n0 M w ip cp hi hc R
  replace R : Rel env n0 M t32 w := R
  refine (tree_rel hT_b mixed_ok hF_b (by decide) Q32_r trivial R (.cons _ _ _ _ (.p0 64 ip hi) (.cons _ _ _ _ (.p0 97 cp hc) .nil))).mono ?_
  rintro e w' ⟨r, rfl, hb, hat⟩
  have h := hat
  · exact fin 29 (by decide) rfl (by kernel_rfl) (by kernel_rfl) (by kernel_rfl) hb (lf := Q32_0) h hi hc
theorem st29 : StepR 29 := by
  intro env n0 M w ip cp hi hc R
  replace R : Rel env n0 M t33 w := R
  refine (tree_rel hT_b mixed_ok hF_b (by decide) Q33_r trivial R (.cons _ _ _ _ (.p0 64 ip hi) (.cons _ _ _ _ (.p0 97 cp hc) .nil))).mono ?_
  rintro e w' ⟨r, rfl, hb, hat⟩
  have h := hat
  · exact fin 30 (by decide) rfl (by kernel_rfl) (by kernel_rfl) (by kernel_rfl) hb (lf := Q33_0) h hi hc
theorem st30 : StepR 30 := by
  intro env n0 M w ip cp hi hc R
  replace R : Rel env n0 M t34 w := R
  refine (tree_rel hT_b mixed_ok hF_b (by decide) Q34_r trivial R (.cons _ _ _ _ (.p0 64 ip hi) (.cons _ _ _ _ (.p0 97 cp hc) .nil))).mono ?_
  rintro e w' ⟨r, rfl, hb, hat⟩
  have h := hat
  · exact fin 31 (by decide) rfl (by kernel_rfl) (by kernel_rfl) (by kernel_rfl) hb (lf := Q34_0) h hi hc
theorem st31 : StepR 31 := by
  intro env n0 M w ip cp hi hc R
  replace R : Rel env n0 M t35 w := R
  refine (tree_rel hT_b mixed_ok hF_b (by decide) Q35_r trivial R (.cons _ _ _ _ (.p0 64 ip hi) (.cons _ _ _ _ (.p0 97 cp hc) .nil))).mono ?_
  rintro e w' ⟨r, rfl, hb, hat⟩
  have h := hat
  · exact fin 32 (by decide) rfl (by kernel_rfl) (by kernel_rfl) (by kernel_rfl) hb (lf := Q35_0) h hi hc
theorem st32 : StepR 32 := by
  intro env n0 M w ip cp hi hc R
  replace R : Rel env n0 M t36 w := R
  refine (tree_rel hT_b mixed_ok hF_b (by decide) Q36_r trivial R (.cons _ _ _ _ (.p0 64 ip hi) (.cons _ _ _ _ (.p0 97 cp hc) .nil))).mono ?_
  rintro e w' ⟨r, rfl, hb, hat⟩
  have h := hat
  · exact fin 17 (by decide) rfl (by kernel_rfl) (by kernel_rfl) (by kernel_rfl) hb (lf := Q36_0) h hi hc
theorem cp0 : CopyR 0 := copyR (lf := C0_0) C0_r (by kernel_rfl) (by kernel_rfl) (by kernel_rfl) rfl (by kernel_rfl) (by kernel_rfl) (by kernel_rfl) (by kernel_rfl)
theorem sc0 : SameCR 0 := sameCR (lf := E0_0) E0_r rfl
theorem si0 : SameIR 0 := sameIR (lf := F0_0) F0_r rfl
theorem cp1 : CopyR 1 := copyR (lf := C1_0) C1_r (by kernel_rfl) (by kernel_rfl) (by kernel_rfl) rfl (by kernel_rfl) (by kernel_rfl) (by kernel_rfl) (by kernel_rfl)
theorem sc1 : SameCR 1 := sameCR (lf := E1_0) E1_r rfl
theorem si1 : SameIR 1 := sameIR (lf := F1_0) F1_r rfl
theorem cp2 : CopyR 2 := copyR (lf := C2_0) C2_r (by kernel_rfl) (by kernel_rfl) (by kernel_rfl) rfl (by kernel_rfl) (by kernel_rfl) (by kernel_rfl) (by kernel_rfl)
theorem sc2 : SameCR 2 := sameCR (lf := E2_0) E2_r rfl
theorem si2 : SameIR 2 := sameIR (lf := F2_0) F2_r rfl
theorem cp3 : CopyR 3 := copyR (lf := C3_0) C3_r (by kernel_rfl) (by kernel_rfl) (by kernel_rfl) rfl (by kernel_rfl) (by kernel_rfl) (by kernel_rfl) (by kernel_rfl)
theorem sc3 : SameCR 3 := sameCR (lf := E3_0) E3_r rfl
theorem si3 : SameIR 3 := sameIR (lf := F3_0) F3_r rfl
theorem cp4 : CopyR 4 := copyR (lf := C4_0) C4_r (by kernel_rfl) (by kernel_rfl) (by kernel_rfl) rfl (by kernel_rfl) (by kernel_rfl) (by kernel_rfl) (by kernel_rfl)
theorem sc4 : SameCR 4 := sameCR (lf := E4_0) E4_r rfl
theorem si4 : SameIR 4 := sameIR (lf := F4_0) F4_r rfl
theorem cp5 : CopyR 5 := copyR (lf := C5_0) C5_r (by kernel_rfl) (by kernel_rfl) (by kernel_rfl) rfl (by kernel_rfl) (by kernel_rfl) (by kernel_rfl) (by kernel_rfl)
theorem sc5 : SameCR 5 := sameCR (lf := E5_0) E5_r rfl
theorem si5 : SameIR 5 := sameIR (lf := F5_0) F5_r rfl
theorem cp6 : CopyR 6 := copyR (lf := C6_0) C6_r (by kernel_rfl) (by kernel_rfl) (by kernel_rfl) rfl (by kernel_rfl) (by kernel_rfl) (by kernel_rfl) (by kernel_rfl)
theorem sc6 : SameCR 6 := sameCR (lf := E6_0) E6_r rfl
theorem si6 : SameIR 6 := sameIR (lf := F6_0) F6_r rfl
theorem cp7 : CopyR 7 := copyR (lf := C7_0) C7_r (by kernel_rfl) (by kernel_rfl) (by kernel_rfl) rfl (by kernel_rfl) (by kernel_rfl) (by kernel_rfl) (by kernel_rfl)
theorem sc7 : SameCR 7 := sameCR (lf := E7_0) E7_r rfl
theorem si7 : SameIR 7 := sameIR (lf := F7_0) F7_r rfl
theorem cp8 : CopyR 8 := copyR (lf := C8_0) C8_r (by kernel_rfl) (by kernel_rfl) (by kernel_rfl) rfl (by kernel_rfl) (by kernel_rfl) (by kernel_rfl) (by kernel_rfl)
theorem sc8 : SameCR 8 := sameCR (lf := E8_0) E8_r rfl
theorem si8 : SameIR 8 := sameIR (lf := F8_0) F8_r rfl
theorem cp9 : CopyR 9 := copyR (lf := C9_0) C9_r (by kernel_rfl) (by kernel_rfl) (by kernel_rfl) rfl (by kernel_rfl) (by kernel_rfl) (by kernel_rfl) (by kernel_rfl)
theorem sc9 : SameCR 9 := sameCR (lf := E9_0) E9_r rfl
theorem si9 : SameIR 9 := sameIR (lf := F9_0) F9_r rfl
theorem cp10 : CopyR 10 := copyR (lf := C10_0) C10_r (by kernel_rfl) (by kernel_rfl) (by kernel_rfl) rfl (by kernel_rfl) (by kernel_rfl) (by kernel_rfl) (by kernel_rfl)
theorem sc10 : SameCR 10 := sameCR (lf := E10_0) E10_r rfl
theorem si10 : SameIR 10 := sameIR (lf := F10_0) F10_r rfl
theorem cp11 : CopyR 11 := copyR (lf := C11_0) C11_r (by kernel_rfl) (by kernel_rfl) (by kernel_rfl) rfl (by kernel_rfl) (by kernel_rfl) (by kernel_rfl) (by kernel_rfl)
theorem sc11 : SameCR 11 := sameCR (lf := E11_0) E11_r rfl
theorem si11 : SameIR 11 := sameIR (lf := F11_0) F11_r rfl
theorem cp12 : CopyR 12 := copyR (lf := C12_0) C12_r (by kernel_rfl) (by kernel_rfl) (by kernel_rfl) rfl (by kernel_rfl) (by kernel_rfl) (by kernel_rfl) (by kernel_rfl)
theorem sc12 : SameCR 12 := sameCR (lf := E12_0) E12_r rfl
theorem si12 : SameIR 12 := sameIR (lf := F12_0) F12_r rfl
theorem cp13 : CopyR 13 := copyR (lf := C13_0) C13_r (by kernel_rfl) (by kernel_rfl) (by kernel_rfl) rfl (by kernel_rfl) (by kernel_rfl) (by kernel_rfl) (by kernel_rfl)
theorem sc13 : SameCR 13 := sameCR (lf := E13_0) E13_r rfl
theorem si13 : SameIR 13 := sameIR (lf := F13_0) F13_r rfl
theorem cp14 : CopyR 14 := copyR (lf := C14_0) C14_r (by kernel_rfl) (by kernel_rfl) (by kernel_rfl) rfl (by kernel_rfl) (by kernel_rfl) (by kernel_rfl) (by kernel_rfl)
theorem sc14 : SameCR 14 := sameCR (lf := E14_0) E14_r rfl
theorem si14 : SameIR 14 := sameIR (lf := F14_0) F14_r rfl
theorem cp15 : CopyR 15 := copyR (lf := C15_0) C15_r (by kernel_rfl) (by kernel_rfl) (by kernel_rfl) rfl (by kernel_rfl) (by kernel_rfl) (by kernel_rfl) (by kernel_rfl)
theorem sc15 : SameCR 15 := sameCR (lf := E15_0) E15_r rfl
theorem si15 : SameIR 15 := sameIR (lf := F15_0) F15_r rfl
theorem cp16 : CopyR 16 := copyR (lf := C16_0) C16_r (by kernel_rfl) (by kernel_rfl) (by kernel_rfl) rfl (by kernel_rfl) (by kernel_rfl) (by kernel_rfl) (by kernel_rfl)
theorem sc16 : SameCR 16 := sameCR (lf := E16_0) E16_r rfl
theorem si16 : SameIR 16 := sameIR (lf := F16_0) F16_r rfl
theorem cp17 : CopyR 17 := copyR (lf := C17_0) C17_r (by kernel_rfl) (by kernel_rfl) (by kernel_rfl) rfl (by kernel_rfl) (by kernel_rfl) (by kernel_rfl) (by kernel_rfl)
theorem sc17 : SameCR 17 := sameCR (lf := E17_0) E17_r rfl
theorem si17 : SameIR 17 := sameIR (lf := F17_0) F17_r rfl
theorem cp18 : CopyR 18 := copyR (lf := C18_0) C18_r (by kernel_rfl) (by kernel_rfl) (by kernel_rfl) rfl (by kernel_rfl) (by kernel_rfl) (by kernel_rfl) (by kernel_rfl)
theorem sc18 : SameCR 18 := sameCR (lf := E18_0) E18_r rfl
theorem si18 : SameIR 18 := sameIR (lf := F18_0) F18_r rfl
theorem cp19 : CopyR 19 := copyR (lf := C19_0) C19_r (by kernel_rfl) (by kernel_rfl) (by kernel_rfl) rfl (by kernel_rfl) (by kernel_rfl) (by kernel_rfl) (by kernel_rfl)
theorem sc19 : SameCR 19 := sameCR (lf := E19_0) E19_r rfl
theorem si19 : SameIR 19 := sameIR (lf := F19_0) F19_r rfl
theorem cp20 : CopyR 20 := copyR (lf := C20_0) C20_r (by kernel_rfl) (by kernel_rfl) (by kernel_rfl) rfl (by kernel_rfl) (by kernel_rfl) (by kernel_rfl) (by kernel_rfl)
theorem sc20 : SameCR 20 := sameCR (lf := E20_0) E20_r rfl
theorem si20 : SameIR 20 := sameIR (lf := F20_0) F20_r rfl
theorem cp21 : CopyR 21 := copyR (lf := C21_0) C21_r (by kernel_rfl) (by kernel_rfl) (by kernel_rfl) rfl (by kernel_rfl) (by kernel_rfl) (by kernel_rfl) (by kernel_rfl)
theorem sc21 : SameCR 21 := sameCR (lf := E21_0) E21_r rfl
theorem si21 : SameIR 21 := sameIR (lf := F21_0) F21_r rfl
theorem cp22 : CopyR 22 := copyR (lf := C22_0) C22_r (by kernel_rfl) (by kernel_rfl) (by kernel_rfl) rfl (by kernel_rfl) (by kernel_rfl) (by kernel_rfl) (by kernel_rfl)
theorem sc22 : SameCR 22 := sameCR (lf := E22_0) E22_r rfl
theorem si22 : SameIR 22 := sameIR (lf := F22_0) F22_r rfl
theorem cp23 : CopyR 23 := copyR (lf := C23_0) C23_r (by kernel_rfl) (by kernel_rfl) (by kernel_rfl) rfl (by kernel_rfl) (by kernel_rfl) (by kernel_rfl) (by kernel_rfl)
theorem sc23 : SameCR 23 := sameCR (lf := E23_0) E23_r rfl
theorem si23 : SameIR 23 := sameIR (lf := F23_0) F23_r rfl
theorem cp24 : CopyR 24 := copyR (lf := C24_0) C24_r (by kernel_rfl) (by kernel_rfl) (by kernel_rfl) rfl (by kernel_rfl) (by kernel_rfl) (by kernel_rfl) (by kernel_rfl)
theorem sc24 : SameCR 24 := sameCR (lf := E24_0) E24_r rfl
theorem si24 : SameIR 24 := sameIR (lf := F24_0) F24_r rfl
theorem cp25 : CopyR 25 := copyR (lf := C25_0) C25_r (by kernel_rfl) (by kernel_rfl) (by kernel_rfl) rfl (by kernel_rfl) (by kernel_rfl) (by kernel_rfl) (by kernel_rfl)
theorem sc25 : SameCR 25 := sameCR (lf := E25_0) E25_r rfl
theorem si25 : SameIR 25 := sameIR (lf := F25_0) F25_r rfl
theorem cp26 : CopyR 26 := copyR (lf := C26_0) C26_r (by kernel_rfl) (by kernel_rfl) (by kernel_rfl) rfl (by kernel_rfl) (by kernel_rfl) (by kernel_rfl) (by kernel_rfl)
theorem sc26 : SameCR 26 := sameCR (lf := E26_0) E26_r rfl
theorem si26 : SameIR 26 := sameIR (lf := F26_0) F26_r rfl
theorem cp27 : CopyR 27 := copyR (lf := C27_0) C27_r (by kernel_rfl) (by kernel_rfl) (by kernel_rfl) rfl (by kernel_rfl) (by kernel_rfl) (by kernel_rfl) (by kernel_rfl)
theorem sc27 : SameCR 27 := sameCR (lf := E27_0) E27_r rfl
theorem si27 : SameIR 27 := sameIR (lf := F27_0) F27_r rfl
theorem cp28 : CopyR 28 := copyR (lf := C28_0) C28_r (by kernel_rfl) (by kernel_rfl) (by kernel_rfl) rfl (by kernel_rfl) (by kernel_rfl) (by kernel_rfl) (by kernel_rfl)
theorem sc28 : SameCR 28 := sameCR (lf := E28_0) E28_r rfl
theorem si28 : SameIR 28 := sameIR (lf := F28_0) F28_r rfl
theorem cp29 : CopyR 29 := copyR (lf := C29_0) C29_r (by kernel_rfl) (by kernel_rfl) (by kernel_rfl) rfl (by kernel_rfl) (by kernel_rfl) (by kernel_rfl) (by kernel_rfl)
theorem sc29 : SameCR 29 := sameCR (lf := E29_0) E29_r rfl
theorem si29 : SameIR 29 := sameIR (lf := F29_0) F29_r rfl
theorem cp30 : CopyR 30 := copyR (lf := C30_0) C30_r (by kernel_rfl) (by kernel_rfl) (by kernel_rfl) rfl (by kernel_rfl) (by kernel_rfl) (by kernel_rfl) (by kernel_rfl)
theorem sc30 : SameCR 30 := sameCR (lf := E30_0) E30_r rfl
theorem si30 : SameIR 30 := sameIR (lf := F30_0) F30_r rfl
theorem cp31 : CopyR 31 := copyR (lf := C31_0) C31_r (by kernel_rfl) (by kernel_rfl) (by kernel_rfl) rfl (by kernel_rfl) (by kernel_rfl) (by kernel_rfl) (by kernel_rfl)
theorem sc31 : SameCR 31 := sameCR (lf := E31_0) E31_r rfl
theorem si31 : SameIR 31 := sameIR (lf := F31_0) F31_r rfl
theorem cp32 : CopyR 32 := copyR (lf := C32_0) C32_r (by kernel_rfl) (by kernel_rfl) (by kernel_rfl) rfl (by kernel_rfl) (by kernel_rfl) (by kernel_rfl) (by kernel_rfl)
theorem sc32 : SameCR 32 := sameCR (lf := E32_0) E32_r rfl
theorem si32 : SameIR 32 := sameIR (lf := F32_0) F32_r rfl
theorem st_all (k : Nat) (hk : k < 33) : StepR k := by
  have h : k = 0 ∨ k = 1 ∨ k = 2 ∨ k = 3 ∨ k = 4 ∨ k = 5 ∨ k = 6 ∨ k = 7 ∨ k = 8 ∨ k = 9 ∨ k = 10 ∨ k = 11 ∨ k = 12 ∨ k = 13 ∨ k = 14 ∨ k = 15 ∨ k = 16 ∨ k = 17 ∨ k = 18 ∨ k = 19 ∨ k = 20 ∨ k = 21 ∨ k = 22 ∨ k = 23 ∨ k = 24 ∨ k = 25 ∨ k = 26 ∨ k = 27 ∨ k = 28 ∨ k = 29 ∨ k = 30 ∨ k = 31 ∨ k = 32 := by omega
  rcases h with rfl | rfl | rfl | rfl | rfl | rfl | rfl | rfl | rfl | rfl | rfl | rfl | rfl | rfl | rfl | rfl | rfl | rfl | rfl | rfl | rfl | rfl | rfl | rfl | rfl | rfl | rfl | rfl | rfl | rfl | rfl | rfl | rfl
  · exact st0
  · exact st1
  · exact st2
  · exact st3
  · exact st4
  · exact st5
  · exact st6
  · exact st7
  · exact st8
  · exact st9
  · exact st10
  · exact st11
  · exact st12
  · exact st13
  · exact st14
  · exact st15
  · exact st16
  · exact st17
  · exact st18
  · exact st19
  · exact st20
  · exact st21
  · exact st22
  · exact st23
  · exact st24
  · exact st25
  · exact st26
  · exact st27
  · exact st28
  · exact st29
  · exact st30
  · exact st31
  · exact st32
theorem cp_all (k : Nat) (hk : k < 33) : CopyR k := by
  have h : k = 0 ∨ k = 1 ∨ k = 2 ∨ k = 3 ∨ k = 4 ∨ k = 5 ∨ k = 6 ∨ k = 7 ∨ k = 8 ∨ k = 9 ∨ k = 10 ∨ k = 11 ∨ k = 12 ∨ k = 13 ∨ k = 14 ∨ k = 15 ∨ k = 16 ∨ k = 17 ∨ k = 18 ∨ k = 19 ∨ k = 20 ∨ k = 21 ∨ k = 22 ∨ k = 23 ∨ k = 24 ∨ k = 25 ∨ k = 26 ∨ k = 27 ∨ k = 28 ∨ k = 29 ∨ k = 30 ∨ k = 31 ∨ k = 32 := by omega
  rcases h with rfl | rfl | rfl | rfl | rfl | rfl | rfl | rfl | rfl | rfl | rfl | rfl | rfl | rfl | rfl | rfl | rfl | rfl | rfl | rfl | rfl | rfl | rfl | rfl | rfl | rfl | rfl | rfl | rfl | rfl | rfl | rfl | rfl
  · exact cp0
  · exact cp1
  · exact cp2
  · exact cp3
  · exact cp4
  · exact cp5
  · exact cp6
  · exact cp7
  · exact cp8
  · exact cp9
  · exact cp10
  · exact cp11
  · exact cp12
  · exact cp13
  · exact cp14
  · exact cp15
  · exact cp16
  · exact cp17
  · exact cp18
  · exact cp19
  · exact cp20
  · exact cp21
  · exact cp22
  · exact cp23
  · exact cp24
  · exact cp25
  · exact cp26
  · exact cp27
  · exact cp28
  · exact cp29
  · exact cp30
  · exact cp31
  · exact cp32
theorem sc_all (k : Nat) (hk : k < 33) : SameCR k := by
  have h : k = 0 ∨ k = 1 ∨ k = 2 ∨ k = 3 ∨ k = 4 ∨ k = 5 ∨ k = 6 ∨ k = 7 ∨ k = 8 ∨ k = 9 ∨ k = 10 ∨ k = 11 ∨ k = 12 ∨ k = 13 ∨ k = 14 ∨ k = 15 ∨ k = 16 ∨ k = 17 ∨ k = 18 ∨ k = 19 ∨ k = 20 ∨ k = 21 ∨ k = 22 ∨ k = 23 ∨ k = 24 ∨ k = 25 ∨ k = 26 ∨ k = 27 ∨ k = 28 ∨ k = 29 ∨ k = 30 ∨ k = 31 ∨ k = 32 := by omega
  rcases h with rfl | rfl | rfl | rfl | rfl | rfl | rfl | rfl | rfl | rfl | rfl | rfl | rfl | rfl | rfl | rfl | rfl | rfl | rfl | rfl | rfl | rfl | rfl | rfl | rfl | rfl | rfl | rfl | rfl | rfl | rfl | rfl | rfl
  · exact sc0
  · exact sc1
  · exact sc2
  · exact sc3
  · exact sc4
  · exact sc5
  · exact sc6
  · exact sc7
  · exact sc8
  · exact sc9
  · exact sc10
  · exact sc11
  · exact sc12
  · exact sc13
  · exact sc14
  · exact sc15
  · exact sc16
  · exact sc17
  · exact sc18
  · exact sc19
  · exact sc20
  · exact sc21
  · exact sc22
  · exact sc23
  · exact sc24
  · exact sc25
  · exact sc26
  · exact sc27
  · exact sc28
  · exact sc29
  · exact sc30
  · exact sc31
  · exact sc32
theorem si_all (k : Nat) (hk : k < 33) : SameIR k := by
  have h : k = 0 ∨ k = 1 ∨ k = 2 ∨ k = 3 ∨ k = 4 ∨ k = 5 ∨ k = 6 ∨ k = 7 ∨ k = 8 ∨ k = 9 ∨ k = 10 ∨ k = 11 ∨ k = 12 ∨ k = 13 ∨ k = 14 ∨ k = 15 ∨ k = 16 ∨ k = 17 ∨ k = 18 ∨ k = 19 ∨ k = 20 ∨ k = 21 ∨ k = 22 ∨ k = 23 ∨ k = 24 ∨ k = 25 ∨ k = 26 ∨ k = 27 ∨ k = 28 ∨ k = 29 ∨ k = 30 ∨ k = 31 ∨ k = 32 := by omega
  rcases h with rfl | rfl | rfl | rfl | rfl | rfl | rfl | rfl | rfl | rfl | rfl | rfl | rfl | rfl | rfl | rfl | rfl | rfl | rfl | rfl | rfl | rfl | rfl | rfl | rfl | rfl | rfl | rfl | rfl | rfl | rfl | rfl | rfl
  · exact si0
  · exact si1
  · exact si2
  · exact si3
  · exact si4
  · exact si5
  · exact si6
  · exact si7
  · exact si8
  · exact si9
  · exact si10
  · exact si11
  · exact si12
  · exact si13
  · exact si14
  · exact si15
  · exact si16
  · exact si17
  · exact si18
  · exact si19
  · exact si20
  · exact si21
  · exact si22
  · exact si23
  · exact si24
  · exact si25
  · exact si26
  · exact si27
  · exact si28
  · exact si29
  · exact si30
  · exact si31
  · exact si32
theorem tc0 : (chkR (TC 0) (TB 0) (LC 0) (fun i => .v i), sg (TC 0) (LC 0) 4, sg (TC 0) (LC 0) 37, sg (TC 0) (LC 0) 54) = (true, some 4, some 37, some 64) := by kernel_rfl
theorem ok0 : okCfg (TQ 0) 97 = true := by kernel_rfl
theorem cb0 : [cellT (TC 0) 37 0, cellT (TC 0) 37 1, cellT (TC 0) 37 2, cellT (TC 0) 37 3, cellT (TC 0) 37 4] = (CB 0).map some := by kernel_rfl
theorem tc1 : (chkR (TC 1) (TB 1) (LC 1) (fun i => .v i), sg (TC 1) (LC 1) 4, sg (TC 1) (LC 1) 37, sg (TC 1) (LC 1) 54) = (true, some 4, some 37, some 64) := by kernel_rfl
theorem ok1 : okCfg (TQ 1) 97 = true := by kernel_rfl
theorem cb1 : [cellT (TC 1) 37 0, cellT (TC 1) 37 1, cellT (TC 1) 37 2, cellT (TC 1) 37 3, cellT (TC 1) 37 4] = (CB 1).map some := by kernel_rfl
theorem tc2 : (chkR (TC 2) (TB 2) (LC 2) (fun i => .v i), sg (TC 2) (LC 2) 4, sg (TC 2) (LC 2) 37, sg (TC 2) (LC 2) 54) = (true, some 4, some 37, some 64) := by kernel_rfl
theorem ok2 : okCfg (TQ 2) 97 = true := by kernel_rfl
theorem cb2 : [cellT (TC 2) 37 0, cellT (TC 2) 37 1, cellT (TC 2) 37 2, cellT (TC 2) 37 3, cellT (TC 2) 37 4] = (CB 2).map some := by kernel_rfl
theorem tc3 : (chkR (TC 3) (TB 3) (LC 3) (fun i => .v i), sg (TC 3) (LC 3) 4, sg (TC 3) (LC 3) 37, sg (TC 3) (LC 3) 54) = (true, some 4, some 37, some 64) := by kernel_rfl
theorem ok3 : okCfg (TQ 3) 97 = true := by kernel_rfl
theorem cb3 : [cellT (TC 3) 37 0, cellT (TC 3) 37 1, cellT (TC 3) 37 2, cellT (TC 3) 37 3, cellT (TC 3) 37 4] = (CB 3).map some := by kernel_rfl
theorem tc4 : (chkR (TC 4) (TB 4) (LC 4) (fun i => .v i), sg (TC 4) (LC 4) 4, sg (TC 4) (LC 4) 37, sg (TC 4) (LC 4) 54) = (true, some 4, some 37, some 64) := by kernel_rfl
theorem ok4 : okCfg (TQ 4) 97 = true := by kernel_rfl
theorem cb4 : [cellT (TC 4) 37 0, cellT (TC 4) 37 1, cellT (TC 4) 37 2, cellT (TC 4) 37 3, cellT (TC 4) 37 4] = (CB 4).map some := by kernel_rfl
theorem tc5 : (chkR (TC 5) (TB 5) (LC 5) (fun i => .v i), sg (TC 5) (LC 5) 4, sg (TC 5) (LC 5) 37, sg (TC 5) (LC 5) 54) = (true, some 4, some 37, some 64) := by kernel_rfl
theorem ok5 : okCfg (TQ 5) 97 = true := by kernel_rfl
theorem cb5 : [cellT (TC 5) 37 0, cellT (TC 5) 37 1, cellT (TC 5) 37 2, cellT (TC 5) 37 3, cellT (TC 5) 37 4] = (CB 5).map some := by kernel_rfl
theorem tc6 : (chkR (TC 6) (TB 6) (LC 6) (fun i => .v i), sg (TC 6) (LC 6) 4, sg (TC 6) (LC 6) 37, sg (TC 6) (LC 6) 54) = (true, some 4, some 37, some 64) := by kernel_rfl
theorem ok6 : okCfg (TQ 6) 97 = true := by kernel_rfl
theorem cb6 : [cellT (TC 6) 37 0, cellT (TC 6) 37 1, cellT (TC 6) 37 2, cellT (TC 6) 37 3, cellT (TC 6) 37 4] = (CB 6).map some := by kernel_rfl
theorem tc7 : (chkR (TC 7) (TB 7) (LC 7) (fun i => .v i), sg (TC 7) (LC 7) 4, sg (TC 7) (LC 7) 37, sg (TC 7) (LC 7) 54) = (true, some 4, some 37, some 64) := by kernel_rfl
theorem ok7 : okCfg (TQ 7) 97 = true := by kernel_rfl
theorem cb7 : [cellT (TC 7) 37 0, cellT (TC 7) 37 1, cellT (TC 7) 37 2, cellT (TC 7) 37 3, cellT (TC 7) 37 4] = (CB 7).map some := by kernel_rfl
theorem tc8 : (chkR (TC 8) (TB 8) (LC 8) (fun i => .v i), sg (TC 8) (LC 8) 4, sg (TC 8) (LC 8) 37, sg (TC 8) (LC 8) 54) = (true, some 4, some 37, some 64) := by kernel_rfl
theorem ok8 : okCfg (TQ 8) 97 = true := by kernel_rfl
theorem cb8 : [cellT (TC 8) 37 0, cellT (TC 8) 37 1, cellT (TC 8) 37 2, cellT (TC 8) 37 3, cellT (TC 8) 37 4] = (CB 8).map some := by kernel_rfl
theorem tc9 : (chkR (TC 9) (TB 9) (LC 9) (fun i => .v i), sg (TC 9) (LC 9) 4, sg (TC 9) (LC 9) 37, sg (TC 9) (LC 9) 54) = (true, some 4, some 37, some 64) := by kernel_rfl
theorem ok9 : okCfg (TQ 9) 97 = true := by kernel_rfl
theorem cb9 : [cellT (TC 9) 37 0, cellT (TC 9) 37 1, cellT (TC 9) 37 2, cellT (TC 9) 37 3, cellT (TC 9) 37 4] = (CB 9).map some := by kernel_rfl
theorem tc10 : (chkR (TC 10) (TB 10) (LC 10) (fun i => .v i), sg (TC 10) (LC 10) 4, sg (TC 10) (LC 10) 37, sg (TC 10) (LC 10) 54) = (true, some 4, some 37, some 64) := by kernel_rfl
theorem ok10 : okCfg (TQ 10) 97 = true := by kernel_rfl
theorem cb10 : [cellT (TC 10) 37 0, cellT (TC 10) 37 1, cellT (TC 10) 37 2, cellT (TC 10) 37 3, cellT (TC 10) 37 4] = (CB 10).map some := by kernel_rfl
theorem tc11 : (chkR (TC 11) (TB 11) (LC 11) (fun i => .v i), sg (TC 11) (LC 11) 4, sg (TC 11) (LC 11) 37, sg (TC 11) (LC 11) 54) = (true, some 4, some 37, some 64) := by kernel_rfl
theorem ok11 : okCfg (TQ 11) 97 = true := by kernel_rfl
theorem cb11 : [cellT (TC 11) 37 0, cellT (TC 11) 37 1, cellT (TC 11) 37 2, cellT (TC 11) 37 3, cellT (TC 11) 37 4] = (CB 11).map some := by kernel_rfl
theorem tc12 : (chkR (TC 12) (TB 12) (LC 12) (fun i => .v i), sg (TC 12) (LC 12) 4, sg (TC 12) (LC 12) 37, sg (TC 12) (LC 12) 54) = (true, some 4, some 37, some 64) := by kernel_rfl
theorem ok12 : okCfg (TQ 12) 97 = true := by kernel_rfl
theorem cb12 : [cellT (TC 12) 37 0, cellT (TC 12) 37 1, cellT (TC 12) 37 2, cellT (TC 12) 37 3, cellT (TC 12) 37 4] = (CB 12).map some := by kernel_rfl
theorem tc13 : (chkR (TC 13) (TB 13) (LC 13) (fun i => .v i), sg (TC 13) (LC 13) 4, sg (TC 13) (LC 13) 37, sg (TC 13) (LC 13) 54) = (true, some 4, some 37, some 64) := by kernel_rfl
theorem ok13 : okCfg (TQ 13) 97 = true := by kernel_rfl
theorem cb13 : [cellT (TC 13) 37 0, cellT (TC 13) 37 1, cellT (TC 13) 37 2, cellT (TC 13) 37 3, cellT (TC 13) 37 4] = (CB 13).map some := by kernel_rfl
theorem tc14 : (chkR (TC 14) (TB 14) (LC 14) (fun i => .v i), sg (TC 14) (LC 14) 4, sg (TC 14) (LC 14) 37, sg (TC 14) (LC 14) 54) = (true, some 4, some 37, some 64) := by kernel_rfl
theorem ok14 : okCfg (TQ 14) 97 = true := by kernel_rfl
theorem cb14 : [cellT (TC 14) 37 0, cellT (TC 14) 37 1, cellT (TC 14) 37 2, cellT (TC 14) 37 3, cellT (TC 14) 37 4] = (CB 14).map some := by kernel_rfl
theorem tc15 : (chkR (TC 15) (TB 15) (LC 15) (fun i => .v i), sg (TC 15) (LC 15) 4, sg (TC 15) (LC 15) 37, sg (TC 15) (LC 15) 54) = (true, some 4, some 37, some 64) := by kernel_rfl
theorem ok15 : okCfg (TQ 15) 97 = true := by kernel_rfl
theorem cb15 : [cellT (TC 15) 37 0, cellT (TC 15) 37 1, cellT (TC 15) 37 2, cellT (TC 15) 37 3, cellT (TC 15) 37 4] = (CB 15).map some := by kernel_rfl
theorem tc16 : (chkR (TC 16) (TB 16) (LC 16) (fun i => .v i), sg (TC 16) (LC 16) 4, sg (TC 16) (LC 16) 37, sg (TC 16) (LC 16) 54) = (true, some 4, some 37, some 64) := by kernel_rfl
theorem ok16 : okCfg (TQ 16) 97 = true := by kernel_rfl
theorem cb16 : [cellT (TC 16) 37 0, cellT (TC 16) 37 1, cellT (TC 16) 37 2, cellT (TC 16) 37 3, cellT (TC 16) 37 4] = (CB 16).map some := by kernel_rfl
theorem tc17 : (chkR (TC 17) (TB 17) (LC 17) (fun i => .v i), sg (TC 17) (LC 17) 4, sg (TC 17) (LC 17) 37, sg (TC 17) (LC 17) 54) = (true, some 4, some 37, some 64) := by kernel_rfl
theorem ok17 : okCfg (TQ 17) 97 = true := by kernel_rfl
theorem cb17 : [cellT (TC 17) 37 0, cellT (TC 17) 37 1, cellT (TC 17) 37 2, cellT (TC 17) 37 3, cellT (TC 17) 37 4] = (CB 17).map some := by kernel_rfl
theorem tc18 : (chkR (TC 18) (TB 18) (LC 18) (fun i => .v i), sg (TC 18) (LC 18) 4, sg (TC 18) (LC 18) 37, sg (TC 18) (LC 18) 54) = (true, some 4, some 37, some 64) := by kernel_rfl
theorem ok18 : okCfg (TQ 18) 97 = true := by kernel_rfl
theorem cb18 : [cellT (TC 18) 37 0, cellT (TC 18) 37 1, cellT (TC 18) 37 2, cellT (TC 18) 37 3, cellT (TC 18) 37 4] = (CB 18).map some := by kernel_rfl
theorem tc19 : (chkR (TC 19) (TB 19) (LC 19) (fun i => .v i), sg (TC 19) (LC 19) 4, sg (TC 19) (LC 19) 37, sg (TC 19) (LC 19) 54) = (true, some 4, some 37, some 64) := by kernel_rfl
theorem ok19 : okCfg (TQ 19) 97 = true := by kernel_rfl
theorem cb19 : [cellT (TC 19) 37 0, cellT (TC 19) 37 1, cellT (TC 19) 37 2, cellT (TC 19) 37 3, cellT (TC 19) 37 4] = (CB 19).map some := by kernel_rfl
theorem tc20 : (chkR (TC 20) (TB 20) (LC 20) (fun i => .v i), sg (TC 20) (LC 20) 4, sg (TC 20) (LC 20) 37, sg (TC 20) (LC 20) 54) = (true, some 4, some 37, some 64) := by kernel_rfl
theorem ok20 : okCfg (TQ 20) 97 = true := by kernel_rfl
theorem cb20 : [cellT (TC 20) 37 0, cellT (TC 20) 37 1, cellT (TC 20) 37 2, cellT (TC 20) 37 3, cellT (TC 20) 37 4] = (CB 20).map some := by kernel_rfl
theorem tc21 : (chkR (TC 21) (TB 21) (LC 21) (fun i => .v i), sg (TC 21) (LC 21) 4, sg (TC 21) (LC 21) 37, sg (TC 21) (LC 21) 54) = (true, some 4, some 37, some 64) := by kernel_rfl
theorem ok21 : okCfg (TQ 21) 97 = true := by kernel_rfl
theorem cb21 : [cellT (TC 21) 37 0, cellT (TC 21) 37 1, cellT (TC 21) 37 2, cellT (TC 21) 37 3, cellT (TC 21) 37 4] = (CB 21).map some := by kernel_rfl
theorem tc22 : (chkR (TC 22) (TB 22) (LC 22) (fun i => .v i), sg (TC 22) (LC 22) 4, sg (TC 22) (LC 22) 37, sg (TC 22) (LC 22) 54) = (true, some 4, some 37, some 64) := by kernel_rfl
theorem ok22 : okCfg (TQ 22) 97 = true := by kernel_rfl
theorem cb22 : [cellT (TC 22) 37 0, cellT (TC 22) 37 1, cellT (TC 22) 37 2, cellT (TC 22) 37 3, cellT (TC 22) 37 4] = (CB 22).map some := by kernel_rfl
theorem tc23 : (chkR (TC 23) (TB 23) (LC 23) (fun i => .v i), sg (TC 23) (LC 23) 4, sg (TC 23) (LC 23) 37, sg (TC 23) (LC 23) 54) = (true, some 4, some 37, some 64) := by kernel_rfl
theorem ok23 : okCfg (TQ 23) 97 = true := by kernel_rfl
theorem cb23 : [cellT (TC 23) 37 0, cellT (TC 23) 37 1, cellT (TC 23) 37 2, cellT (TC 23) 37 3, cellT (TC 23) 37 4] = (CB 23).map some := by kernel_rfl
theorem tc24 : (chkR (TC 24) (TB 24) (LC 24) (fun i => .v i), sg (TC 24) (LC 24) 4, sg (TC 24) (LC 24) 37, sg (TC 24) (LC 24) 54) = (true, some 4, some 37, some 64) := by kernel_rfl
theorem ok24 : okCfg (TQ 24) 97 = true := by kernel_rfl
theorem cb24 : [cellT (TC 24) 37 0, cellT (TC 24) 37 1, cellT (TC 24) 37 2, cellT (TC 24) 37 3, cellT (TC 24) 37 4] = (CB 24).map some := by kernel_rfl
theorem tc25 : (chkR (TC 25) (TB 25) (LC 25) (fun i => .v i), sg (TC 25) (LC 25) 4, sg (TC 25) (LC 25) 37, sg (TC 25) (LC 25) 54) = (true, some 4, some 37, some 64) := by kernel_rfl
theorem ok25 : okCfg (TQ 25) 97 = true := by kernel_rfl
theorem cb25 : [cellT (TC 25) 37 0, cellT (TC 25) 37 1, cellT (TC 25) 37 2, cellT (TC 25) 37 3, cellT (TC 25) 37 4] = (CB 25).map some := by kernel_rfl
theorem tc26 : (chkR (TC 26) (TB 26) (LC 26) (fun i => .v i), sg (TC 26) (LC 26) 4, sg (TC 26) (LC 26) 37, sg (TC 26) (LC 26) 54) = (true, some 4, some 37, some 64) := by kernel_rfl
theorem ok26 : okCfg (TQ 26) 97 = true := by kernel_rfl
theorem cb26 : [cellT (TC 26) 37 0, cellT (TC 26) 37 1, cellT (TC 26) 37 2, cellT (TC 26) 37 3, cellT (TC 26) 37 4] = (CB 26).map some := by kernel_rfl
theorem tc27 : (chkR (TC 27) (TB 27) (LC 27) (fun i => .v i), sg (TC 27) (LC 27) 4, sg (TC 27) (LC 27) 37, sg (TC 27) (LC 27) 54) = (true, some 4, some 37, some 64) := by kernel_rfl
theorem ok27 : okCfg (TQ 27) 97 = true := by kernel_rfl
theorem cb27 : [cellT (TC 27) 37 0, cellT (TC 27) 37 1, cellT (TC 27) 37 2, cellT (TC 27) 37 3, cellT (TC 27) 37 4] = (CB 27).map some := by kernel_rfl
theorem tc28 : (chkR (TC 28) (TB 28) (LC 28) (fun i => .v i), sg (TC 28) (LC 28) 4, sg (TC 28) (LC 28) 37, sg (TC 28) (LC 28) 54) = (true, some 4, some 37, some 64) := by kernel_rfl
theorem ok28 : okCfg (TQ 28) 97 = true := by kernel_rfl
theorem cb28 : [cellT (TC 28) 37 0, cellT (TC 28) 37 1, cellT (TC 28) 37 2, cellT (TC 28) 37 3, cellT (TC 28) 37 4] = (CB 28).map some := by kernel_rfl
theorem tc29 : (chkR (TC 29) (TB 29) (LC 29) (fun i => .v i), sg (TC 29) (LC 29) 4, sg (TC 29) (LC 29) 37, sg (TC 29) (LC 29) 54) = (true, some 4, some 37, some 64) := by kernel_rfl
theorem ok29 : okCfg (TQ 29) 97 = true := by kernel_rfl
theorem cb29 : [cellT (TC 29) 37 0, cellT (TC 29) 37 1, cellT (TC 29) 37 2, cellT (TC 29) 37 3, cellT (TC 29) 37 4] = (CB 29).map some := by kernel_rfl
theorem tc30 : (chkR (TC 30) (TB 30) (LC 30) (fun i => .v i), sg (TC 30) (LC 30) 4, sg (TC 30) (LC 30) 37, sg (TC 30) (LC 30) 54) = (true, some 4, some 37, some 64) := by kernel_rfl
theorem ok30 : okCfg (TQ 30) 97 = true := by kernel_rfl
theorem cb30 : [cellT (TC 30) 37 0, cellT (TC 30) 37 1, cellT (TC 30) 37 2, cellT (TC 30) 37 3, cellT (TC 30) 37 4] = (CB 30).map some := by kernel_rfl
theorem tc31 : (chkR (TC 31) (TB 31) (LC 31) (fun i => .v i), sg (TC 31) (LC 31) 4, sg (TC 31) (LC 31) 37, sg (TC 31) (LC 31) 54) = (true, some 4, some 37, some 64) := by kernel_rfl
theorem ok31 : okCfg (TQ 31) 97 = true := by kernel_rfl
theorem cb31 : [cellT (TC 31) 37 0, cellT (TC 31) 37 1, cellT (TC 31) 37 2, cellT (TC 31) 37 3, cellT (TC 31) 37 4] = (CB 31).map some := by kernel_rfl
theorem tc32 : (chkR (TC 32) (TB 32) (LC 32) (fun i => .v i), sg (TC 32) (LC 32) 4, sg (TC 32) (LC 32) 37, sg (TC 32) (LC 32) 54) = (true, some 4, some 37, some 64) := by kernel_rfl
theorem ok32 : okCfg (TQ 32) 97 = true := by kernel_rfl
theorem cb32 : [cellT (TC 32) 37 0, cellT (TC 32) 37 1, cellT (TC 32) 37 2, cellT (TC 32) 37 3, cellT (TC 32) 37 4] = (CB 32).map some := by kernel_rfl
theorem ok_all (k : Nat) (hk : k < 33) : okCfg (TQ k) 97 = true := by
  have h : k = 0 ∨ k = 1 ∨ k = 2 ∨ k = 3 ∨ k = 4 ∨ k = 5 ∨ k = 6 ∨ k = 7 ∨ k = 8 ∨ k = 9 ∨ k = 10 ∨ k = 11 ∨ k = 12 ∨ k = 13 ∨ k = 14 ∨ k = 15 ∨ k = 16 ∨ k = 17 ∨ k = 18 ∨ k = 19 ∨ k = 20 ∨ k = 21 ∨ k = 22 ∨ k = 23 ∨ k = 24 ∨ k = 25 ∨ k = 26 ∨ k = 27 ∨ k = 28 ∨ k = 29 ∨ k = 30 ∨ k = 31 ∨ k = 32 := by omega
  rcases h with rfl | rfl | rfl | rfl | rfl | rfl | rfl | rfl | rfl | rfl | rfl | rfl | rfl | rfl | rfl | rfl | rfl | rfl | rfl | rfl | rfl | rfl | rfl | rfl | rfl | rfl | rfl | rfl | rfl | rfl | rfl | rfl | rfl
  · exact ok0
  · exact ok1
  · exact ok2
  · exact ok3
  · exact ok4
  · exact ok5
  · exact ok6
  · exact ok7
  · exact ok8
  · exact ok9
  · exact ok10
  · exact ok11
  · exact ok12
  · exact ok13
  · exact ok14
  · exact ok15
  · exact ok16
  · exact ok17
  · exact ok18
  · exact ok19
  · exact ok20
  · exact ok21
  · exact ok22
  · exact ok23
  · exact ok24
  · exact ok25
  · exact ok26
  · exact ok27
  · exact ok28
  · exact ok29
  · exact ok30
  · exact ok31
  · exact ok32
theorem cb_all (k : Nat) (hk : k < 33) : [cellT (TC k) 37 0, cellT (TC k) 37 1, cellT (TC k) 37 2, cellT (TC k) 37 3, cellT (TC k) 37 4] = (CB k).map some := by
  have h : k = 0 ∨ k = 1 ∨ k = 2 ∨ k = 3 ∨ k = 4 ∨ k = 5 ∨ k = 6 ∨ k = 7 ∨ k = 8 ∨ k = 9 ∨ k = 10 ∨ k = 11 ∨ k = 12 ∨ k = 13 ∨ k = 14 ∨ k = 15 ∨ k = 16 ∨ k = 17 ∨ k = 18 ∨ k = 19 ∨ k = 20 ∨ k = 21 ∨ k = 22 ∨ k = 23 ∨ k = 24 ∨ k = 25 ∨ k = 26 ∨ k = 27 ∨ k = 28 ∨ k = 29 ∨ k = 30 ∨ k = 31 ∨ k = 32 := by omega
  rcases h with rfl | rfl | rfl | rfl | rfl | rfl | rfl | rfl | rfl | rfl | rfl | rfl | rfl | rfl | rfl | rfl | rfl | rfl | rfl | rfl | rfl | rfl | rfl | rfl | rfl | rfl | rfl | rfl | rfl | rfl | rfl | rfl | rfl
  · exact cb0
  · exact cb1
  · exact cb2
  · exact cb3
  · exact cb4
  · exact cb5
  · exact cb6
  · exact cb7
  · exact cb8
  · exact cb9
  · exact cb10
  · exact cb11
  · exact cb12
  · exact cb13
  · exact cb14
  · exact cb15
  · exact cb16
  · exact cb17
  · exact cb18
  · exact cb19
  · exact cb20
  · exact cb21
  · exact cb22
  · exact cb23
  · exact cb24
  · exact cb25
  · exact cb26
  · exact cb27
  · exact cb28
  · exact cb29
  · exact cb30
  · exact cb31
  · exact cb32
theorem tc_all (k : Nat) (hk : k < 33) : (chkR (TC k) (TB k) (LC k) (fun i => .v i), sg (TC k) (LC k) 4, sg (TC k) (LC k) 37, sg (TC k) (LC k) 54) = (true, some 4, some 37, some 64) := by
  have h : k = 0 ∨ k = 1 ∨ k = 2 ∨ k = 3 ∨ k = 4 ∨ k = 5 ∨ k = 6 ∨ k = 7 ∨ k = 8 ∨ k = 9 ∨ k = 10 ∨ k = 11 ∨ k = 12 ∨ k = 13 ∨ k = 14 ∨ k = 15 ∨ k = 16 ∨ k = 17 ∨ k = 18 ∨ k = 19 ∨ k = 20 ∨ k = 21 ∨ k = 22 ∨ k = 23 ∨ k = 24 ∨ k = 25 ∨ k = 26 ∨ k = 27 ∨ k = 28 ∨ k = 29 ∨ k = 30 ∨ k = 31 ∨ k = 32 := by omega
  rcases h with rfl | rfl | rfl | rfl | rfl | rfl | rfl | rfl | rfl | rfl | rfl | rfl | rfl | rfl | rfl | rfl | rfl | rfl | rfl | rfl | rfl | rfl | rfl | rfl | rfl | rfl | rfl | rfl | rfl | rfl | rfl | rfl | rfl
  · exact tc0
  · exact tc1
  · exact tc2
  · exact tc3
  · exact tc4
  · exact tc5
  · exact tc6
  · exact tc7
  · exact tc8
  · exact tc9
  · exact tc10
  · exact tc11
  · exact tc12
  · exact tc13
  · exact tc14
  · exact tc15
  · exact tc16
  · exact tc17
  · exact tc18
  · exact tc19
  · exact tc20
  · exact tc21
  · exact tc22
  · exact tc23
  · exact tc24
  · exact tc25
  · exact tc26
  · exact tc27
  · exact tc28
  · exact tc29
  · exact tc30
  · exact tc31
  · exact tc32
end Go.Vm.Sl
