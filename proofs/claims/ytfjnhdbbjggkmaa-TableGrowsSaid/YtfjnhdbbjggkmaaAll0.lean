/- The law TableAll: its call answers true. -/
import Derived.Test.YtfjnhdbbjggkmaaTabC
import Derived.Deep.QuietTactic
import Derived.BigQuiet
import Derived.Lib.Hide
set_option linter.unusedVariables false
set_option linter.unusedSimpArgs false
namespace Go.Proofs.Ytfjnhdbbjggkmaa.Mem
open Go.RowKit Go.Proofs.YtfjnhdbbjggkmaaW.PrintWords Go.Proofs.YtfjnhdbbjggkmaaW.PrintLast Go.Proofs.YtfjnhdbbjggkmaaW.PrintMore Go.Proofs.Ytfjnhdbbjggkmaa.PTableAll
theorem R_carry {w w1 : World} {base : Nat} {ok : Nat → Prop} {v : Value} {xs : List Int} (h : Kd.R (Kd.int .u64) 23 w base ok v xs) (hb : Below w.heap.size w w1) : Kd.R (Kd.int .u64) 23 w1 base ok v xs :=
  Kd.R_of_own (enc := Value.int .u64) (h1 := fun _ => rfl) (own_other (Kd.own_of_R (enc := Value.int .u64) (h1 := fun _ => rfl) h) (grown_of_below hb none) (by cases v.ownBlock with | none => exact .inl rfl | some b => exact .inr (by simp))) h.1
theorem R_other {w w1 : World} {base : Nat} {ok : Nat → Prop} {g g' n c : Nat} {xs : List Int} (h : Kd.R (Kd.int .u64) 23 w base ok (.slice (some ⟨g, 0, none⟩) n c) xs) (hg : w.grownBy w1 (some g')) (hne : g ≠ g') : Kd.R (Kd.int .u64) 23 w1 base ok (.slice (some ⟨g, 0, none⟩) n c) xs :=
  Kd.R_of_own (enc := Value.int .u64) (h1 := fun _ => rfl) (by
    have ho := Kd.own_of_R (enc := Value.int .u64) (h1 := fun _ => rfl) h
    exact own_other ho hg (.inr (by intro he; injection he with he; exact hne he))) h.1
theorem R_lt2 {w : World} {base : Nat} {ok : Nat → Prop} {g n c : Nat} {xs : List Int} (h : Kd.R (Kd.int .u64) 23 w base ok (.slice (some ⟨g, 0, none⟩) n c) xs) : g < w.heap.size := by
  obtain ⟨_, inner, ho, _⟩ := h
  obtain ⟨h1, h2⟩ := ho
  rcases h2 with ⟨e, h3⟩ | ⟨g', cap, cur, e, _, h4, _⟩
  · cases e
  · injection e with e1 e2 e3
    injection e1 with e1
    injection e1 with e1
    subst e1
    rcases Nat.lt_or_ge g w.heap.size with h | h
    · exact h
    · rw [Array.getElem?_eq_none h] at h4
      cases h4
theorem below_own {W w w1 : World} {base : Nat} {ok : Nat → Prop} {g n c : Nat} {xs : List Int} (hb : Below W.heap.size W w) (hR : Kd.R (Kd.int .u64) 23 w base ok (.slice (some ⟨g, 0, none⟩) n c) xs) (hle : W.heap.size ≤ base) (hg : w.grownBy w1 (some g)) : Below W.heap.size W w1 :=
  pw_below_grown hb (some g) (below_size hb) hg (fun k hk => by injection hk with hk; have := Kd.R_base hR g rfl; omega)
theorem same_l0 (l : List Int) (hl : l.length ≤ 9223372036854775000) : ∀ n i, i + n = l.length + 1 → 1 ≤ n → cloakroomref1_SameNums.l0 n l l (i : Int) = some true
  | n + 1, i, h, _ => by
    unfold cloakroomref1_SameNums.l0
    split
    · rename_i hi
      rw [if_pos (by omega), if_pos rfl]
      have e : wrap64 ((i : Int) + 1) = ((i + 1 : Nat) : Int) := by
        unfold wrap64
        omega
      rw [e]
      exact same_l0 l hl n (i + 1) (by omega) (by omega)
    · rfl
theorem same_refl (l : List Int) (hl : l.length ≤ 9223372036854775000) : cloakroomref1_SameNums.f (l.length + 1) l l = some true := by
  unfold cloakroomref1_SameNums.f
  rw [if_pos rfl]
  exact same_l0 l hl (l.length + 1) 0 (by omega) (by omega)
theorem same_c (A0 A1 : Option Addr) (c0 c1 n : Nat) (X : List Int) (w : World) (hn : X.length = n) (hsm : n ≤ 100) (h0 : Kd.C (Kd.int .u64) w A0 X.length X) (hc0 : n ≤ c0) (h1 : Kd.C (Kd.int .u64) w A1 X.length X) (hc1 : n ≤ c1) :
    Calls Try.prog 20 #[.slice A0 n c0, .slice A1 n c1] w fun e w' => e = .returned (.bool true) ∧ Drawn0 w w' := by
  subst hn
  exact cloakroomref1_SameNums.calls (X.length + 1) A0 c0 X A1 c1 X true w h0 hc0 h1 hc1 (same_refl X (by omega))
end Go.Proofs.Ytfjnhdbbjggkmaa.Mem
