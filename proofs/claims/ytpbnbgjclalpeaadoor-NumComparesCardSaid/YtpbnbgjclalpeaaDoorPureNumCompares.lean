/- The pure statement of the law NumCompares: the twenty compares are the language's own, for all pairs of numbers of 64 bits. -/
import Derived.Test.YtpbnbgjclalpeaaDoorPNx6
import Derived.Laws.BitsAllLaws
import Derived.Laws.Bits64
namespace Go.Proofs.YtpbnbgjclalpeaaDoor.PureC
open Go.RowKit Go.Proofs.YtpbnbgjclalpeaaDoor.PN Go.Proofs.YtpbnbgjclalpeaaDoorW.PrintWords Go.Proofs.YtpbnbgjclalpeaaDoorW.PrintLast
set_option maxRecDepth 100000
set_option linter.unusedSimpArgs false

theorem wf_u64 {x : Int} (h : (Lit.int .u64 x).wf = true) : 0 ≤ x ∧ x < 18446744073709551616 := by
  simp only [Lit.wf, IntKind.min, IntKind.max, IntKind.signed, IntKind.bits, Bool.and_eq_true] at h
  simp at h
  omega
theorem begun (m : Nat) : cloakroomlaw13_begun.f (m + 20) = some true := by kernel_rfl
theorem low (x : Int) (h0 : 0 ≤ x) (h1 : x < 18446744073709551616) : Go.bits .and .u64 x 4294967295 = x % 4294967296 := by
  rw [u64_and x 4294967295 h0 h1 (by omega) (by omega)]
  have : (x.toNat &&& (4294967295 : Int).toNat : Nat) = x.toNat % 4294967296 := by
    have := Nat.and_two_pow_sub_one_eq_mod x.toNat 32
    simpa using this
  rw [this]
  omega
/-- One answer of a compare. -/
def ans (b : Bool) : Option (Int × Int) := (num_flag.f b).bind fun t => some (t, 0)
theorem ans_eq (b : Bool) : ans b = some (if b = true then 1 else 0, 0) := by cases b <;> rfl
/-- The low half's signed form. -/
def s32 (x : Int) : Int := wrap64 (wrap32 (Go.bits .and .u64 x 4294967295))
theorem s32_eq (x : Int) (h0 : 0 ≤ x) (h1 : x < 18446744073709551616) : s32 x = wrap32 x := by
  unfold s32; rw [low x h0 h1]; unfold wrap32 wrap64; omega
def l32 (x : Int) : Int := Go.bits .and .u64 x 4294967295
theorem l32_eq (x : Int) (h0 : 0 ≤ x) (h1 : x < 18446744073709551616) : l32 x = x % 4294967296 := low x h0 h1

theorem cmp2 (a b c d : Int) : num_compare.f 2 a b c d = some (decide (c < d)) := by simp [num_compare.f]
theorem cmp4 (a b c d : Int) : num_compare.f 4 a b c d = some (decide (c > d)) := by simp [num_compare.f]
theorem cmp6 (a b c d : Int) : num_compare.f 6 a b c d = some (decide (c ≤ d)) := by simp [num_compare.f]
theorem cmp8 (a b c d : Int) : num_compare.f 8 a b c d = some (decide (c ≥ d)) := by simp [num_compare.f]
theorem two_low (m : Nat) (op x y k : Int) (hk : wrap64 (op - 70) = k) (h : op ≤ 79) (hi : num_Is.f (m + 12) op = some 2) : num_Two.f (m + 12) op x y = (num_compare.f k (Go.bits .and .u64 x 4294967295) (Go.bits .and .u64 y 4294967295) (wrap64 (wrap32 (Go.bits .and .u64 x 4294967295))) (wrap64 (wrap32 (Go.bits .and .u64 y 4294967295)))).bind ans := by
  subst hk
  unfold num_Two.f
  rw [hi]
  simp only [Option.bind_some, if_true]
  rw [if_neg (by omega), if_neg (by omega)]
  simp only [num_Two.j0, Bool.false_eq_true, if_false]
  rw [if_pos h]
  rfl
theorem c70 (m : Nat) (x y : Int) : num_Two.f (m + 12) 70 x y = ans (l32 x == l32 y) := by kernel_rfl
theorem c71 (m : Nat) (x y : Int) : num_Two.f (m + 12) 71 x y = ans (l32 x != l32 y) := by kernel_rfl
theorem c72 (m : Nat) (x y : Int) : num_Two.f (m + 12) 72 x y = ans (decide (wrap64 (wrap32 (Go.bits .and .u64 x 4294967295)) < wrap64 (wrap32 (Go.bits .and .u64 y 4294967295)))) := by
  refine (two_low m 72 x y 2 (by unfold wrap64; omega) (by decide) (by kernel_rfl)).trans ?_
  rw [cmp2]
  exact Option.bind_some _ _
theorem c73 (m : Nat) (x y : Int) : num_Two.f (m + 12) 73 x y = ans (decide (l32 x < l32 y)) := by kernel_rfl
theorem c74 (m : Nat) (x y : Int) : num_Two.f (m + 12) 74 x y = ans (decide (wrap64 (wrap32 (Go.bits .and .u64 x 4294967295)) > wrap64 (wrap32 (Go.bits .and .u64 y 4294967295)))) := by
  refine (two_low m 74 x y 4 (by unfold wrap64; omega) (by decide) (by kernel_rfl)).trans ?_
  rw [cmp4]
  exact Option.bind_some _ _
theorem c75 (m : Nat) (x y : Int) : num_Two.f (m + 12) 75 x y = ans (decide (l32 x > l32 y)) := by kernel_rfl
theorem c76 (m : Nat) (x y : Int) : num_Two.f (m + 12) 76 x y = ans (decide (wrap64 (wrap32 (Go.bits .and .u64 x 4294967295)) ≤ wrap64 (wrap32 (Go.bits .and .u64 y 4294967295)))) := by
  refine (two_low m 76 x y 6 (by unfold wrap64; omega) (by decide) (by kernel_rfl)).trans ?_
  rw [cmp6]
  exact Option.bind_some _ _
theorem c77 (m : Nat) (x y : Int) : num_Two.f (m + 12) 77 x y = ans (decide (l32 x ≤ l32 y)) := by kernel_rfl
theorem c78 (m : Nat) (x y : Int) : num_Two.f (m + 12) 78 x y = ans (decide (wrap64 (wrap32 (Go.bits .and .u64 x 4294967295)) ≥ wrap64 (wrap32 (Go.bits .and .u64 y 4294967295)))) := by
  refine (two_low m 78 x y 8 (by unfold wrap64; omega) (by decide) (by kernel_rfl)).trans ?_
  rw [cmp8]
  exact Option.bind_some _ _
theorem c79 (m : Nat) (x y : Int) : num_Two.f (m + 12) 79 x y = ans (decide (l32 x ≥ l32 y)) := by kernel_rfl
theorem c81 (m : Nat) (x y : Int) : num_Two.f (m + 12) 81 x y = ans (x == y) := by kernel_rfl
theorem c82 (m : Nat) (x y : Int) : num_Two.f (m + 12) 82 x y = ans (x != y) := by kernel_rfl
theorem c83 (m : Nat) (x y : Int) : num_Two.f (m + 12) 83 x y = ans (decide (wrap64 x < wrap64 y)) := by kernel_rfl
theorem c84 (m : Nat) (x y : Int) : num_Two.f (m + 12) 84 x y = ans (decide (x < y)) := by kernel_rfl
theorem c85 (m : Nat) (x y : Int) : num_Two.f (m + 12) 85 x y = ans (decide (wrap64 x > wrap64 y)) := by kernel_rfl
theorem c86 (m : Nat) (x y : Int) : num_Two.f (m + 12) 86 x y = ans (decide (x > y)) := by kernel_rfl
theorem c87 (m : Nat) (x y : Int) : num_Two.f (m + 12) 87 x y = ans (decide (wrap64 x ≤ wrap64 y)) := by kernel_rfl
theorem c88 (m : Nat) (x y : Int) : num_Two.f (m + 12) 88 x y = ans (decide (x ≤ y)) := by kernel_rfl
theorem c89 (m : Nat) (x y : Int) : num_Two.f (m + 12) 89 x y = ans (decide (wrap64 x ≥ wrap64 y)) := by kernel_rfl
theorem c90 (m : Nat) (x y : Int) : num_Two.f (m + 12) 90 x y = ans (decide (x ≥ y)) := by kernel_rfl

theorem NumCompares : cloakroomlaw13_NumCompares.Pure := by
  intro x y hx hy
  obtain ⟨hx, hx'⟩ := wf_u64 hx
  obtain ⟨hy, hy'⟩ := wf_u64 hy
  refine ⟨50, ?_⟩
  unfold cloakroomlaw13_NumCompares.f
  rw [begun 30]
  simp only [Option.bind_some, if_true]
  generalize hw : ([_, _, _, _, _, _, _, _, _, _, _, _, _, _, _, _, _, _, _, _] : List Bool) = W
  have hl2 : (W.length : Int) = 20 := by rw [← hw]; rfl
  have low_ : ∀ (k : Nat) (i op : Int) (b : Bool), 0 ≤ i → i < 10 → wrap64 (70 + i) = op → rdOf false W i = b → num_Two.f k op x y = ans b →
      cloakroomlaw13_NumCompares.l0 (k + 1) x y W i = cloakroomlaw13_NumCompares.l0 k x y W (i + 1) := by
    intro k i op b h0 h1 hop hwant htwo
    simp only [cloakroomlaw13_NumCompares.l0]
    rw [if_pos (by omega), if_neg (by omega), hop, htwo, ans_eq]
    simp only [Option.bind_some, if_true]
    rw [if_pos h0, hl2, if_pos (by omega), hwant, if_neg (by cases b <;> simp), if_neg (by cases b <;> simp)]
    rw [show wrap64 (i + 1) = i + 1 by unfold wrap64; omega]
  have high_ : ∀ (k : Nat) (i op : Int) (b : Bool), 10 ≤ i → i < 20 → wrap64 (wrap64 (81 + i) - 10) = op → rdOf false W i = b → num_Two.f k op x y = ans b →
      cloakroomlaw13_NumCompares.l0 (k + 1) x y W i = cloakroomlaw13_NumCompares.l0 k x y W (i + 1) := by
    intro k i op b h0 h1 hop hwant htwo
    simp only [cloakroomlaw13_NumCompares.l0]
    rw [if_pos (by omega), if_pos (by omega), hop, htwo, ans_eq]
    simp only [Option.bind_some, if_true]
    rw [if_pos (by omega), hl2, if_pos (by omega), hwant, if_neg (by cases b <;> simp), if_neg (by cases b <;> simp)]
    rw [show wrap64 (i + 1) = i + 1 by unfold wrap64; omega]
  have ex := l32_eq x hx hx'
  have ey := l32_eq y hy hy'
  have sx := s32_eq x hx hx'
  have sy := s32_eq y hy hy'
  have q0 : rdOf false W 0 = (l32 x == l32 y) := by
    rw [← hw, ex, ey]; show (wrap32 x == wrap32 y) = _
    rw [Bool.eq_iff_iff]; simp only [beq_iff_eq]; unfold wrap32; omega
  have q1 : rdOf false W 1 = (l32 x != l32 y) := by
    rw [← hw, ex, ey]; show (wrap32 x != wrap32 y) = _
    rw [Bool.eq_iff_iff]; simp only [bne_iff_ne, ne_eq]; unfold wrap32; omega
  have q2 : rdOf false W 2 = decide (s32 x < s32 y) := by rw [← hw, sx, sy]; rfl
  have q3 : rdOf false W 3 = decide (l32 x < l32 y) := by rw [← hw, ex, ey]; rfl
  have q4 : rdOf false W 4 = decide (s32 x > s32 y) := by rw [← hw, sx, sy]; rfl
  have q5 : rdOf false W 5 = decide (l32 x > l32 y) := by rw [← hw, ex, ey]; rfl
  have q6 : rdOf false W 6 = decide (s32 x ≤ s32 y) := by rw [← hw, sx, sy]; rfl
  have q7 : rdOf false W 7 = decide (l32 x ≤ l32 y) := by rw [← hw, ex, ey]; rfl
  have q8 : rdOf false W 8 = decide (s32 x ≥ s32 y) := by rw [← hw, sx, sy]; rfl
  have q9 : rdOf false W 9 = decide (l32 x ≥ l32 y) := by rw [← hw, ex, ey]; rfl
  rw [low_ 49 0 70 _ (by decide) (by decide) (by unfold wrap64; omega) q0 (c70 37 x y), show ((0 : Int) + 1) = 1 from rfl,
    low_ 48 1 71 _ (by decide) (by decide) (by unfold wrap64; omega) q1 (c71 36 x y), show ((1 : Int) + 1) = 2 from rfl,
    low_ 47 2 72 _ (by decide) (by decide) (by unfold wrap64; omega) q2 (c72 35 x y), show ((2 : Int) + 1) = 3 from rfl,
    low_ 46 3 73 _ (by decide) (by decide) (by unfold wrap64; omega) q3 (c73 34 x y), show ((3 : Int) + 1) = 4 from rfl,
    low_ 45 4 74 _ (by decide) (by decide) (by unfold wrap64; omega) q4 (c74 33 x y), show ((4 : Int) + 1) = 5 from rfl,
    low_ 44 5 75 _ (by decide) (by decide) (by unfold wrap64; omega) q5 (c75 32 x y), show ((5 : Int) + 1) = 6 from rfl,
    low_ 43 6 76 _ (by decide) (by decide) (by unfold wrap64; omega) q6 (c76 31 x y), show ((6 : Int) + 1) = 7 from rfl,
    low_ 42 7 77 _ (by decide) (by decide) (by unfold wrap64; omega) q7 (c77 30 x y), show ((7 : Int) + 1) = 8 from rfl,
    low_ 41 8 78 _ (by decide) (by decide) (by unfold wrap64; omega) q8 (c78 29 x y), show ((8 : Int) + 1) = 9 from rfl,
    low_ 40 9 79 _ (by decide) (by decide) (by unfold wrap64; omega) q9 (c79 28 x y), show ((9 : Int) + 1) = 10 from rfl,
    high_ 39 10 81 _ (by decide) (by decide) (by unfold wrap64; omega) (by rw [← hw]; rfl) (c81 27 x y), show ((10 : Int) + 1) = 11 from rfl]
  rw [high_ 38 11 82 _ (by decide) (by decide) (by unfold wrap64; omega) (by rw [← hw]; rfl) (c82 26 x y), show ((11 : Int) + 1) = 12 from rfl,
    high_ 37 12 83 _ (by decide) (by decide) (by unfold wrap64; omega) (by rw [← hw]; rfl) (c83 25 x y), show ((12 : Int) + 1) = 13 from rfl,
    high_ 36 13 84 _ (by decide) (by decide) (by unfold wrap64; omega) (by rw [← hw]; rfl) (c84 24 x y), show ((13 : Int) + 1) = 14 from rfl,
    high_ 35 14 85 _ (by decide) (by decide) (by unfold wrap64; omega) (by rw [← hw]; rfl) (c85 23 x y), show ((14 : Int) + 1) = 15 from rfl,
    high_ 34 15 86 _ (by decide) (by decide) (by unfold wrap64; omega) (by rw [← hw]; rfl) (c86 22 x y), show ((15 : Int) + 1) = 16 from rfl,
    high_ 33 16 87 _ (by decide) (by decide) (by unfold wrap64; omega) (by rw [← hw]; rfl) (c87 21 x y), show ((16 : Int) + 1) = 17 from rfl,
    high_ 32 17 88 _ (by decide) (by decide) (by unfold wrap64; omega) (by rw [← hw]; rfl) (c88 20 x y), show ((17 : Int) + 1) = 18 from rfl,
    high_ 31 18 89 _ (by decide) (by decide) (by unfold wrap64; omega) (by rw [← hw]; rfl) (c89 19 x y), show ((18 : Int) + 1) = 19 from rfl,
    high_ 30 19 90 _ (by decide) (by decide) (by unfold wrap64; omega) (by rw [← hw]; rfl) (c90 18 x y), show ((19 : Int) + 1) = 20 from rfl]
  simp only [cloakroomlaw13_NumCompares.l0]
  rw [if_neg (by decide)]
end Go.Proofs.YtpbnbgjclalpeaaDoor.PureC
