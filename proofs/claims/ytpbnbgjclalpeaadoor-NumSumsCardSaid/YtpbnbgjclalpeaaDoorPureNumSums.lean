/- The pure statement of the law NumSums: sums, differences, products and bitwise operations of 32 and of 64 bits are the language's own, for all pairs of numbers of 64 bits. -/
import Derived.Test.YtpbnbgjclalpeaaDoorPNx6
import Derived.Laws.BitsAllLaws
import Derived.Laws.Bits64
namespace Go.Proofs.YtpbnbgjclalpeaaDoor.Pure
open Go.RowKit Go.Proofs.YtpbnbgjclalpeaaDoor.PN Go.Proofs.YtpbnbgjclalpeaaDoorW.PrintWords Go.Proofs.YtpbnbgjclalpeaaDoorW.PrintLast
set_option maxRecDepth 100000
set_option linter.unusedSimpArgs false

theorem wf_u64 {x : Int} (h : (Lit.int .u64 x).wf = true) : 0 ≤ x ∧ x < 18446744073709551616 := by
  simp only [Lit.wf, IntKind.min, IntKind.max, IntKind.signed, IntKind.bits, Bool.and_eq_true] at h
  simp at h
  omega

theorem begun (m : Nat) : cloakroomlaw13_begun.f (m + 20) = some true := by kernel_rfl

/-- The low half of a number. -/
theorem low (x : Int) (h0 : 0 ≤ x) (h1 : x < 18446744073709551616) : Go.bits .and .u64 x 4294967295 = x % 4294967296 := by
  rw [u64_and x 4294967295 h0 h1 (by omega) (by omega)]
  have : (x.toNat &&& (4294967295 : Int).toNat : Nat) = x.toNat % 4294967296 := by
    have := Nat.and_two_pow_sub_one_eq_mod x.toNat 32
    simpa using this
  rw [this]
  omega

theorem u64_wrap (n : Int) : IntKind.u64.wrap n = n % 18446744073709551616 := IntKind.wrap_u64 n

theorem e106 (m : Nat) (x y : Int) : num_Two.f (m + 12) 106 x y = some (Go.bits .and .u64 (IntKind.u64.wrap (Go.bits .and .u64 x 4294967295 + Go.bits .and .u64 y 4294967295)) 4294967295, 0) := by kernel_rfl
theorem e107 (m : Nat) (x y : Int) : num_Two.f (m + 12) 107 x y = some (Go.bits .and .u64 (IntKind.u64.wrap (Go.bits .and .u64 x 4294967295 - Go.bits .and .u64 y 4294967295)) 4294967295, 0) := by kernel_rfl
theorem e108 (m : Nat) (x y : Int) : num_Two.f (m + 12) 108 x y = some (Go.bits .and .u64 (IntKind.u64.wrap (Go.bits .and .u64 x 4294967295 * Go.bits .and .u64 y 4294967295)) 4294967295, 0) := by kernel_rfl
theorem e124 (m : Nat) (x y : Int) : num_Two.f (m + 12) 124 x y = some (IntKind.u64.wrap (x + y), 0) := by kernel_rfl
theorem e125 (m : Nat) (x y : Int) : num_Two.f (m + 12) 125 x y = some (IntKind.u64.wrap (x - y), 0) := by kernel_rfl
theorem e126 (m : Nat) (x y : Int) : num_Two.f (m + 12) 126 x y = some (IntKind.u64.wrap (x * y), 0) := by kernel_rfl
theorem e113 (m : Nat) (x y : Int) : num_Two.f (m + 12) 113 x y = some (Go.bits .and .u64 (Go.bits .and .u64 (Go.bits .and .u64 x 4294967295) (Go.bits .and .u64 y 4294967295)) 4294967295, 0) := by kernel_rfl
theorem e114 (m : Nat) (x y : Int) : num_Two.f (m + 12) 114 x y = some (Go.bits .and .u64 (Go.bits .or .u64 (Go.bits .and .u64 x 4294967295) (Go.bits .and .u64 y 4294967295)) 4294967295, 0) := by kernel_rfl
theorem e115 (m : Nat) (x y : Int) : num_Two.f (m + 12) 115 x y = some (Go.bits .and .u64 (Go.bits .xor .u64 (Go.bits .and .u64 x 4294967295) (Go.bits .and .u64 y 4294967295)) 4294967295, 0) := by kernel_rfl
theorem e131 (m : Nat) (x y : Int) : num_Two.f (m + 12) 131 x y = some (Go.bits .and .u64 x y, 0) := by kernel_rfl
theorem e132 (m : Nat) (x y : Int) : num_Two.f (m + 12) 132 x y = some (Go.bits .or .u64 x y, 0) := by kernel_rfl
theorem e133 (m : Nat) (x y : Int) : num_Two.f (m + 12) 133 x y = some (Go.bits .xor .u64 x y, 0) := by kernel_rfl

/-- Two bitwise forms of a low half. -/
theorem lows (op : BinOp) (g : Nat → Nat → Nat) (h32 : ∀ a b : Int, 0 ≤ a → a < 4294967296 → 0 ≤ b → b < 4294967296 → Go.bits op .u32 a b = ((g a.toNat b.toNat : Nat) : Int))
    (h64 : ∀ a b : Int, 0 ≤ a → a < 18446744073709551616 → 0 ≤ b → b < 18446744073709551616 → Go.bits op .u64 a b = ((g a.toNat b.toNat : Nat) : Int))
    (hg : ∀ a b : Nat, a < 2 ^ 32 → b < 2 ^ 32 → g a b < 2 ^ 32) (x y : Int) (hx : 0 ≤ x) (hx' : x < 18446744073709551616) (hy : 0 ≤ y) (hy' : y < 18446744073709551616) :
    Go.bits .and .u64 (Go.bits op .u64 (Go.bits .and .u64 x 4294967295) (Go.bits .and .u64 y 4294967295)) 4294967295 = IntKind.u64.wrap (Go.bits op .u32 (x % 4294967296) (y % 4294967296)) := by
  rw [low x hx hx', low y hy hy', h64 _ _ (by omega) (by omega) (by omega) (by omega), h32 _ _ (by omega) (by omega) (by omega) (by omega)]
  have := hg (x % 4294967296).toNat (y % 4294967296).toNat (by omega) (by omega)
  rw [low _ (by omega) (by omega), u64_wrap]
  omega

theorem w64 (i : Int) (h0 : 0 ≤ i) (h : i < 100) : wrap64 (i + 1) = i + 1 := by unfold wrap64; omega

theorem NumSums : cloakroomlaw13_NumSums.Pure := by
  intro x y hx hy
  obtain ⟨hx, hx'⟩ := wf_u64 hx
  obtain ⟨hy, hy'⟩ := wf_u64 hy
  refine ⟨40, ?_⟩
  unfold cloakroomlaw13_NumSums.f
  rw [begun 20]
  simp only [Option.bind_some, if_true]
  have d106 : ∀ m, num_Two.f (m + 12) 106 x y = some (((x % 4294967296) + (y % 4294967296)) % 4294967296, 0) := by
    intro m; rw [e106, low x hx hx', low y hy hy', low _ (by rw [u64_wrap]; omega) (by rw [u64_wrap]; omega), u64_wrap]; congr 2; omega
  have d107 : ∀ m, num_Two.f (m + 12) 107 x y = some (((x % 4294967296) - (y % 4294967296)) % 4294967296, 0) := by
    intro m; rw [e107, low x hx hx', low y hy hy', low _ (by rw [u64_wrap]; omega) (by rw [u64_wrap]; omega), u64_wrap]; congr 2; omega
  have d108 : ∀ m, num_Two.f (m + 12) 108 x y = some (((x % 4294967296) * (y % 4294967296)) % 4294967296, 0) := by
    intro m; rw [e108, low x hx hx', low y hy hy', low _ (by rw [u64_wrap]; omega) (by rw [u64_wrap]; omega), u64_wrap]; congr 2
    generalize x % 4294967296 * (y % 4294967296) = z; omega
  have d113 : ∀ m, num_Two.f (m + 12) 113 x y = some (IntKind.u64.wrap (Go.bits .and .u32 (x % 4294967296) (y % 4294967296)), 0) := by
    intro m; rw [e113, lows .and (fun a b => a &&& b) u32_and u64_and (fun a b ha hb => Nat.and_lt_two_pow a hb) x y hx hx' hy hy']
  have d114 : ∀ m, num_Two.f (m + 12) 114 x y = some (IntKind.u64.wrap (Go.bits .or .u32 (x % 4294967296) (y % 4294967296)), 0) := by
    intro m; rw [e114, lows .or (fun a b => a ||| b) u32_or u64_or (fun a b ha hb => Nat.or_lt_two_pow ha hb) x y hx hx' hy hy']
  have d115 : ∀ m, num_Two.f (m + 12) 115 x y = some (IntKind.u64.wrap (Go.bits .xor .u32 (x % 4294967296) (y % 4294967296)), 0) := by
    intro m; rw [e115, lows .xor (fun a b => a ^^^ b) u32_xor u64_xor (fun a b ha hb => Nat.xor_lt_two_pow ha hb) x y hx hx' hy hy']
  generalize hw : ([(x % 4294967296 + y % 4294967296) % 4294967296, (x % 4294967296 - y % 4294967296) % 4294967296, (x % 4294967296) * (y % 4294967296) % 4294967296, IntKind.u64.wrap (x + y), IntKind.u64.wrap (x - y), IntKind.u64.wrap (x * y), IntKind.u64.wrap (Go.bits .and .u32 (x % 4294967296) (y % 4294967296)), IntKind.u64.wrap (Go.bits .or .u32 (x % 4294967296) (y % 4294967296)), IntKind.u64.wrap (Go.bits .xor .u32 (x % 4294967296) (y % 4294967296)), Go.bits .and .u64 x y, Go.bits .or .u64 x y, Go.bits .xor .u64 x y] : List Int) = W
  have step : ∀ (k : Nat) (i op want : Int) (h0 : 0 ≤ i) (h1 : i < 12) (hop : rd [106, 107, 108, 124, 125, 126, 113, 114, 115, 131, 132, 133] i = op) (hwant : rd W i = want) (htwo : num_Two.f k op x y = some (want, 0)),
      cloakroomlaw13_NumSums.l0 (k + 1) x y W [106, 107, 108, 124, 125, 126, 113, 114, 115, 131, 132, 133] i = cloakroomlaw13_NumSums.l0 k x y W [106, 107, 108, 124, 125, 126, 113, 114, 115, 131, 132, 133] (i + 1) := by
    intro k i op want h0 h1 hop hwant htwo
    have hl : (([106, 107, 108, 124, 125, 126, 113, 114, 115, 131, 132, 133] : List Int).length : Int) = 12 := rfl
    have hl2 : (W.length : Int) = 12 := by rw [← hw]; rfl
    simp only [cloakroomlaw13_NumSums.l0]
    rw [hl, if_pos h1, if_pos h0, hop, htwo]
    simp only [Option.bind_some, if_true]
    rw [hl2, if_pos h1, hwant, if_pos rfl, w64 i h0 (by omega)]
  rw [step 39 0 106 _ (by omega) (by omega) rfl (by rw [← hw]; rfl) (d106 27),
    step 38 (0 + 1) 107 _ (by omega) (by omega) rfl (by rw [← hw]; rfl) (d107 26),
    step 37 (0 + 1 + 1) 108 _ (by omega) (by omega) rfl (by rw [← hw]; rfl) (d108 25),
    step 36 (0 + 1 + 1 + 1) 124 _ (by omega) (by omega) rfl (by rw [← hw]; rfl) (e124 24 x y),
    step 35 (0 + 1 + 1 + 1 + 1) 125 _ (by omega) (by omega) rfl (by rw [← hw]; rfl) (e125 23 x y),
    step 34 (0 + 1 + 1 + 1 + 1 + 1) 126 _ (by omega) (by omega) rfl (by rw [← hw]; rfl) (e126 22 x y),
    step 33 (0 + 1 + 1 + 1 + 1 + 1 + 1) 113 _ (by omega) (by omega) rfl (by rw [← hw]; rfl) (d113 21),
    step 32 (0 + 1 + 1 + 1 + 1 + 1 + 1 + 1) 114 _ (by omega) (by omega) rfl (by rw [← hw]; rfl) (d114 20),
    step 31 (0 + 1 + 1 + 1 + 1 + 1 + 1 + 1 + 1) 115 _ (by omega) (by omega) rfl (by rw [← hw]; rfl) (d115 19),
    step 30 (0 + 1 + 1 + 1 + 1 + 1 + 1 + 1 + 1 + 1) 131 _ (by omega) (by omega) rfl (by rw [← hw]; rfl) (e131 18 x y),
    step 29 (0 + 1 + 1 + 1 + 1 + 1 + 1 + 1 + 1 + 1 + 1) 132 _ (by omega) (by omega) rfl (by rw [← hw]; rfl) (e132 17 x y),
    step 28 (0 + 1 + 1 + 1 + 1 + 1 + 1 + 1 + 1 + 1 + 1 + 1) 133 _ (by omega) (by omega) rfl (by rw [← hw]; rfl) (e133 16 x y)]
  simp only [cloakroomlaw13_NumSums.l0]
  rw [if_neg (by decide)]
end Go.Proofs.YtpbnbgjclalpeaaDoor.Pure
