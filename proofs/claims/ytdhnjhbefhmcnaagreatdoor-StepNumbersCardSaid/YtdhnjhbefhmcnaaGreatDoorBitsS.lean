/- VM: rules for the calls of math/bits and of the reference's One. -/
import Derived.Test.YtdhnjhbefhmcnaaGreatDoorBits
import Derived.Test.YtdhnjhbefhmcnaaGreatDoorVmTree
set_option linter.unusedVariables false
set_option linter.unusedSimpArgs false
namespace Go.Vm.Bits
open Go.RowKit Go.Proofs Go.Vm
noncomputable section
def rg2 : Option Bool → Option Bool → Bool
  | some true => fun b => match b with
    | some true => true
    | _ => false
  | _ => fun _ => false
def c0 : IE := .c (.ofNat 0)
/-- Is a number sure to be of a kind without sign? -/
def inRg (k : IntKind) (pc : List (BE × Bool)) : IE → Bool
  | .c n => ileb (.ofNat 0) n && ileb n (.ofNat (Nat.sub (two k) 1))
  | .wrap l _ => keq k l
  | e => rg2 (known pc (.le c0 e)) (known pc (.le e (.c (.ofNat (Nat.sub (two k) 1)))))
def okV (b : Bool) (v : V) : Option V := match b with
  | true => some v
  | false => none
/-- What is asked of one number: o, of kind k, is told as kind r. -/
def g1 (o : IOp) (k r : IntKind) (pc : List (BE × Bool)) : List V → Option V
  | [.i l e] => okV (keq k l && inRg k pc e) (.i r (mkBin e o k c0))
  | _ => none
/-- The same, told as a number of 64 bits without sign. -/
def gC (pc : List (BE × Bool)) : List V → Option V
  | [.i l e] => okV (keq .u64 l && inRg .u64 pc e) (.i .u64 (mkWrap (mkBin e .pop .u64 c0) .u64))
  | _ => none
def one32 (o : IOp) (e : IE) : V := .tup [.i .u64 (mkWrap (mkBin (mkWrap e .u32) o .u32 c0) .u64), .b (.c true)]
def one64 (o : IOp) (e : IE) : V := .tup [.i .u64 (mkWrap (mkBin e o .u64 c0) .u64), .b (.c true)]
def gOne2 (e : IE) (n : Nat) : Option V := match Nat.beq n 103 with
  | true => some (one32 .lz e)
  | false => match Nat.beq n 104 with
    | true => some (one32 .tz e)
    | false => match Nat.beq n 105 with
      | true => some (one32 .pop e)
      | false => match Nat.beq n 121 with
        | true => some (one64 .lz e)
        | false => match Nat.beq n 122 with
          | true => some (one64 .tz e)
          | false => match Nat.beq n 123 with
            | true => some (one64 .pop e)
            | false => none
def gOne1 (b : Bool) (e : IE) (n : Nat) : Option V := match b with
  | true => gOne2 e n
  | false => none
def gOne (pc : List (BE × Bool)) : List V → Option V
  | [.i .i64 (.c (.ofNat n)), .i l e] => gOne1 (keq .u64 l && inRg .u64 pc e) e n
  | _ => none
end
theorem inRg_ok {env : Nat → Int} {k : IntKind} (hk : sgn k = false) {pc : List (BE × Bool)} (hp : PcOk env pc) {e : IE} (h : inRg k pc e = true) : 0 ≤ e.den env ∧ e.den env < (two k : Int) := by
  have hpos := two_pos k
  have gen : rg2 (known pc (.le c0 e)) (known pc (.le e (.c (.ofNat (Nat.sub (two k) 1))))) = true → 0 ≤ e.den env ∧ e.den env < (two k : Int) := by
    intro h
    cases h1 : known pc (.le c0 e) with
    | none => rw [h1] at h; cases h
    | some b =>
      cases h2 : known pc (.le e (.c (.ofNat (Nat.sub (two k) 1)))) with
      | none => rw [h1, h2] at h; cases b <;> cases h
      | some c =>
        rw [h1, h2] at h
        cases b <;> cases c <;> try cases h
        have q1 := known_ok hp h1
        have q2 := known_ok hp h2
        have q1 : ileb (Int.ofNat 0) (e.den env) = true := q1
        have q2 : ileb (e.den env) (Int.ofNat (Nat.sub (two k) 1)) = true := q2
        rw [ileb_eq] at q1 q2
        have q1 := of_decide_eq_true q1
        have q2 := of_decide_eq_true q2
        have : Nat.sub (two k) 1 = two k - 1 := rfl
        rw [this] at q2
        simp only [Int.ofNat_eq_natCast] at q1 q2
        omega
  cases e with
  | c n =>
    have h : (ileb (.ofNat 0) n && ileb n (.ofNat (Nat.sub (two k) 1))) = true := h
    rw [ileb_eq, ileb_eq, Bool.and_eq_true] at h
    have q1 := of_decide_eq_true h.1
    have q2 := of_decide_eq_true h.2
    have : Nat.sub (two k) 1 = two k - 1 := rfl
    rw [this] at q2
    show 0 ≤ n ∧ n < (two k : Int)
    simp only [Int.ofNat_eq_natCast] at q1 q2
    omega
  | wrap l a =>
    have h : keq k l = true := h
    have := (keq_eq _ _).1 h
    subst this
    show 0 ≤ wrapF k (a.den env) ∧ wrapF k (a.den env) < (two k : Int)
    have q := imod_lt (a.den env) k
    have e : wrapF k (a.den env) = ((imod (a.den env) (two k) : Nat) : Int) := by
      unfold wrapF; rw [hk]; rfl
    rw [e]
    omega
  | v i => exact gen h
  | bin o l a b => exact gen h
theorem okV_some {b : Bool} {v u : V} (h : okV b v = some u) : b = true ∧ v = u := by cases b <;> simp [okV] at h; exact ⟨rfl, h⟩
theorem one_arg {env : Nat → Int} {M : Mp} {l : IntKind} {e : IE} {args' : Array Value} (h : VRs env M [.i l e] args'.toList) : args' = #[.int l (e.den env)] := by
  obtain ⟨l'⟩ := args'
  cases h with
  | cons a a' r r' h1 h2 => cases h1; cases h2; rfl
theorem two_args {env : Nat → Int} {M : Mp} {k l : IntKind} {d e : IE} {args' : Array Value} (h : VRs env M [.i k d, .i l e] args'.toList) : args' = #[.int k (d.den env), .int l (e.den env)] := by
  obtain ⟨l'⟩ := args'
  cases h with
  | cons a a' r r' h1 h2 => cases h1; cases h2 with
    | cons b b' s s' h3 h4 => cases h3; cases h4; rfl
theorem lz_len (w n : Nat) : (lzN w n : Int) = (w - bitLen n : Nat) := by
  unfold bitLen
  cases n with
  | zero => rfl
  | succ m =>
    have : ¬ (m + 1 = 0) := by omega
    rw [if_neg this]
    show ((w - 1 - Nat.log2 (m + 1) : Nat) : Int) = _
    omega
theorem lzN_le (w n : Nat) : lzN w n ≤ w := by
  cases n with
  | zero => exact Nat.le_refl _
  | succ m => show w - 1 - _ ≤ w; omega
theorem tzN_le : ∀ (w n : Nat), tzN w n ≤ w
  | 0, n => Nat.le_refl _
  | w + 1, n => by
    have hd : tzN (w + 1) n = match n % 2 with | 0 => tzN w (n / 2) + 1 | _ => 0 := rfl
    have := tzN_le w (n / 2)
    rcases Nat.mod_two_eq_zero_or_one n with h | h
    · rw [hd, h]; show tzN w (n / 2) + 1 ≤ w + 1; omega
    · rw [hd, h]; show 0 ≤ w + 1; omega
/-- One number asked about: the call comes to what the operation gives. -/
theorem g1_rule {n0 : Old} {P : Program} {f : FuncId} {o : IOp} {k r : IntKind} (hk : sgn k = false)
    (hc : ∀ (n : Int) (w : World), 0 ≤ n → n < (two k : Int) → (∀ j, j < n0.n → w.heap[j]? = n0.G j) → Calls P f #[.int k n] w fun e w' => e = .returned (.int r (o.den k n 0)) ∧ Below w.heap.size w w') : RuleOk n0 P f (g1 o k r) := by
  intro env pc args v hp hg M args' w hold hargs
  match args, hg with
  | [.i l e], hg =>
    obtain ⟨h1, rfl⟩ := okV_some hg
    rw [Bool.and_eq_true] at h1
    have := (keq_eq _ _).1 h1.1
    subst this
    obtain ⟨q0, q1⟩ := inRg_ok hk hp h1.2
    rw [one_arg hargs]
    refine (hc _ w q0 q1 hold).mono fun e' w' ⟨he, hb⟩ => ⟨_, he, ?_, hb⟩
    have : (mkBin e o k c0).den env = o.den k (e.den env) 0 := mkBin_den _ _ _ _ _
    rw [← this]
    exact .i r _
theorem gC_rule {n0 : Old} {P : Program} {f : FuncId}
    (hc : ∀ (n : Int) (w : World), 0 ≤ n → n ≤ 18446744073709551615 → Calls P f #[.int .u64 n] w fun e w' => e = .returned (.int .u64 (popN 64 n.toNat : Nat)) ∧ w' = w) : RuleOk n0 P f gC := by
  intro env pc args v hp hg M args' w hold hargs
  match args, hg with
  | [.i l e], hg =>
    obtain ⟨h1, rfl⟩ := okV_some hg
    rw [Bool.and_eq_true] at h1
    have := (keq_eq _ _).1 h1.1
    subst this
    obtain ⟨q0, q1⟩ := inRg_ok rfl hp h1.2
    rw [one_arg hargs]
    refine (hc _ w q0 (by have : (two .u64 : Int) = 18446744073709551616 := rfl; omega)).mono fun e' w' ⟨he, hw⟩ => ⟨_, he, ?_, by rw [hw]; exact Below.refl _ _⟩
    have hl := popN_le 64 (e.den env).toNat
    have : (mkWrap (mkBin e .pop .u64 c0) .u64).den env = (popN 64 (e.den env).toNat : Nat) := by
      rw [mkWrap_den, mkBin_den, ← wrapF_eq, wrap_u64]
      show (((popN 64 (e.den env).toNat : Nat) : Int)) % 18446744073709551616 = _
      omega
    rw [← this]
    exact .i _ _
def OneOk (P : Program) (f : FuncId) (op : Nat) (g : Int → Nat) : Prop := ∀ (n : Int) (h0 : 0 ≤ n) (h1 : n ≤ 18446744073709551615) (w : World), Calls P f #[.int .i64 (op : Int), .int .u64 n] w fun e w' => e = .returned (.tuple #[.int .u64 (g n : Nat), .bool true]) ∧ w' = w
theorem gOne_rule {n0 : Old} {P : Program} {f : FuncId} (h103 : OneOk P f 103 fun n => lzN 32 (n % 4294967296).toNat) (h104 : OneOk P f 104 fun n => tzN 32 (n % 4294967296).toNat) (h105 : OneOk P f 105 fun n => popN 32 (n % 4294967296).toNat)
    (h121 : OneOk P f 121 fun n => lzN 64 n.toNat) (h122 : OneOk P f 122 fun n => tzN 64 n.toNat) (h123 : OneOk P f 123 fun n => popN 64 n.toNat) : RuleOk n0 P f gOne := by
  intro env pc args v hp hg M args' w hold hargs
  match args, hg with
  | [.i .i64 (.c (.ofNat n)), .i l e], hg =>
    have hq : gOne1 (keq .u64 l && inRg .u64 pc e) e n = some v := hg
    cases hb : (keq .u64 l && inRg .u64 pc e) with
    | false => rw [hb] at hq; cases hq
    | true =>
      rw [hb] at hq
      have hr : gOne2 e n = some v := hq
      rw [Bool.and_eq_true] at hb
      have := (keq_eq _ _).1 hb.1
      subst this
      obtain ⟨q0, q1⟩ := inRg_ok rfl hp hb.2
      have q1 : e.den env ≤ 18446744073709551615 := by have : (two .u64 : Int) = 18446744073709551616 := rfl; omega
      rw [two_args hargs]
      have fin : ∀ (g : Int → Nat) (x : IE), (∀ m, g m ≤ 64) → OneOk P f n g → x.den env = (g (e.den env) : Int) → v = .tup [.i .u64 (mkWrap x .u64), .b (.c true)] → Calls P f #[.int .i64 (Int.ofNat n), .int .u64 (e.den env)] w fun e' w' => ∃ x, e' = .returned x ∧ VR env M v x ∧ Below w.heap.size w w' := by
        intro g x hle ho hx hv
        refine (ho _ q0 q1 w).mono fun e' w' ⟨he, hw⟩ => ⟨_, he, ?_, by rw [hw]; exact Below.refl _ _⟩
        subst hv
        have hl := hle (e.den env)
        have hd : (mkWrap x .u64).den env = (g (e.den env) : Int) := by
          rw [mkWrap_den, ← wrapF_eq, wrap_u64, hx]
          omega
        refine .tup _ _ (.cons _ _ _ _ ?_ (.cons _ _ _ _ (.b (.c true)) .nil))
        rw [← hd]
        exact .i _ _
      have w32 : (mkWrap e .u32).den env = e.den env % 4294967296 := by rw [mkWrap_den, ← wrapF_eq, wrap_u32]
      unfold gOne2 at hr
      simp only [RL.beq_dec] at hr
      by_cases e1 : n = 103
      · subst e1
        have hs := Option.some.inj hr
        exact fin _ _ (fun m => Nat.le_trans (lzN_le _ _) (by decide)) h103 ((mkBin_den _ _ _ _ _).trans (by rw [w32]; rfl)) hs.symm
      rw [show decide (n = 103) = false from decide_eq_false e1] at hr
      by_cases e2 : n = 104
      · subst e2
        have hs := Option.some.inj hr
        exact fin _ _ (fun m => Nat.le_trans (tzN_le _ _) (by decide)) h104 ((mkBin_den _ _ _ _ _).trans (by rw [w32]; rfl)) hs.symm
      rw [show decide (n = 104) = false from decide_eq_false e2] at hr
      by_cases e3 : n = 105
      · subst e3
        have hs := Option.some.inj hr
        exact fin _ _ (fun m => Nat.le_trans (popN_le _ _) (by decide)) h105 ((mkBin_den _ _ _ _ _).trans (by rw [w32]; rfl)) hs.symm
      rw [show decide (n = 105) = false from decide_eq_false e3] at hr
      by_cases e4 : n = 121
      · subst e4
        have hs := Option.some.inj hr
        exact fin _ _ (fun m => lzN_le _ _) h121 (mkBin_den _ _ _ _ _) hs.symm
      rw [show decide (n = 121) = false from decide_eq_false e4] at hr
      by_cases e5 : n = 122
      · subst e5
        have hs := Option.some.inj hr
        exact fin _ _ (fun m => tzN_le _ _) h122 (mkBin_den _ _ _ _ _) hs.symm
      rw [show decide (n = 122) = false from decide_eq_false e5] at hr
      by_cases e6 : n = 123
      · subst e6
        have hs := Option.some.inj hr
        exact fin _ _ (fun m => popN_le _ _) h123 (mkBin_den _ _ _ _ _) hs.symm
      rw [show decide (n = 123) = false from decide_eq_false e6] at hr
      cases hr
/-- The tables of TrailingZeros lie in the blocks 0 and 1. -/
def Tabs (w : World) : Prop := (∀ i, i < 32 → w.cell? ⟨0, i, none⟩ = some (.int .u8 (tab32.getD i 0))) ∧ (∀ i, i < 64 → w.cell? ⟨1, i, none⟩ = some (.int .u8 (tab64.getD i 0)))
def TabsIn (n0 : Old) : Prop := ∀ w : World, (∀ k, k < n0.n → w.heap[k]? = n0.G k) → Tabs w
theorem TabsIn.le {a b : Old} (h : TabsIn a) (hl : a.le b) : TabsIn b := fun w hw => h w fun k hk => (hw k (Nat.lt_of_lt_of_le hk hl.1)).trans (hl.2 k hk)
theorem tabsIn_of {W : World} (h : Tabs W) : TabsIn (oldOf W) := by
  intro w hw
  have same : ∀ b i v, W.cell? ⟨b, i, none⟩ = some v → w.cell? ⟨b, i, none⟩ = some v := by
    intro b i v hc
    unfold World.cell? at hc ⊢
    have hlt : b < W.heap.size := by
      rcases Nat.lt_or_ge b W.heap.size with h | h
      · exact h
      · have hn : W.heap[b]? = none := Array.getElem?_eq_none h
        simp only [hn] at hc
        cases hc
    rw [hw b hlt]
    exact hc
  exact ⟨fun i hi => same _ _ _ (h.1 i hi), fun i hi => same _ _ _ (h.2 i hi)⟩
theorem rule_lz32 {n0 : Old} : RuleOk n0 Tryz.prog 101 (g1 .lz .u32 .i64) :=
  g1_rule rfl fun n w h0 h1 hold => by
    refine (lz32 n h0 (by have : (two .u32 : Int) = 4294967296 := rfl; omega) w).mono fun e w' ⟨he, hw⟩ => ⟨?_, by rw [hw]; exact Below.refl _ _⟩
    rw [he]
    have hb : bitLen n.toNat ≤ 32 := bitLen_le (by have : (two .u32 : Int) = 4294967296 := rfl; omega)
    refine congrArg (fun x => Ending.returned (.int .i64 x)) ?_
    show _ = ((lzN 32 n.toNat : Nat) : Int)
    rw [lz_len]; omega
theorem sum_lz32 {n0 : Old} : SumOk n0 Tryz.prog 101 (fun pc args => o1P (g1 .lz .u32 .i64 pc args)) := sum_rule (rule_lz32) ⟨Tryz.f101, bodyOf Tryz.f101, Tryz.func101, by kernel_rfl, of_decide_eq_true (by kernel_rfl)⟩
theorem rule_lz64 {n0 : Old} : RuleOk n0 Tryz.prog 104 (g1 .lz .u64 .i64) :=
  g1_rule rfl fun n w h0 h1 hold => by
    refine (lz64 n h0 (by have : (two .u64 : Int) = 18446744073709551616 := rfl; omega) w).mono fun e w' ⟨he, hw⟩ => ⟨?_, by rw [hw]; exact Below.refl _ _⟩
    rw [he]
    have hb : bitLen n.toNat ≤ 64 := bitLen_le (by have : (two .u64 : Int) = 18446744073709551616 := rfl; omega)
    refine congrArg (fun x => Ending.returned (.int .i64 x)) ?_
    show _ = ((lzN 64 n.toNat : Nat) : Int)
    rw [lz_len]; omega
theorem sum_lz64 {n0 : Old} : SumOk n0 Tryz.prog 104 (fun pc args => o1P (g1 .lz .u64 .i64 pc args)) := sum_rule (rule_lz64) ⟨Tryz.f104, bodyOf Tryz.f104, Tryz.func104, by kernel_rfl, of_decide_eq_true (by kernel_rfl)⟩
theorem rule_pop32 {n0 : Old} : RuleOk n0 Tryz.prog 103 (g1 .pop .u32 .i64) :=
  g1_rule rfl fun n w h0 h1 hold => by
    refine (pop32 n h0 (by have : (two .u32 : Int) = 4294967296 := rfl; omega) w).mono fun e w' ⟨he, hw⟩ => ⟨?_, hw⟩
    rw [he]; rfl
theorem sum_pop32 {n0 : Old} : SumOk n0 Tryz.prog 103 (fun pc args => o1P (g1 .pop .u32 .i64 pc args)) := sum_rule (rule_pop32) ⟨Tryz.f103, bodyOf Tryz.f103, Tryz.func103, by kernel_rfl, of_decide_eq_true (by kernel_rfl)⟩
theorem rule_pop64 {n0 : Old} : RuleOk n0 Tryz.prog 106 (g1 .pop .u64 .i64) :=
  g1_rule rfl fun n w h0 h1 hold => by
    refine (pop64 n h0 (by have : (two .u64 : Int) = 18446744073709551616 := rfl; omega) w).mono fun e w' ⟨he, hw⟩ => ⟨?_, by rw [hw]; exact Below.refl _ _⟩
    rw [he]; rfl
theorem sum_pop64 {n0 : Old} : SumOk n0 Tryz.prog 106 (fun pc args => o1P (g1 .pop .u64 .i64 pc args)) := sum_rule (rule_pop64) ⟨Tryz.f106, bodyOf Tryz.f106, Tryz.func106, by kernel_rfl, of_decide_eq_true (by kernel_rfl)⟩
theorem rule_tz32 {n0 : Old} (ht : TabsIn n0) : RuleOk n0 Tryz.prog 102 (g1 .tz .u32 .i64) :=
  g1_rule rfl fun n w h0 h1 hold => by
    refine (tz32 n h0 (by have : (two .u32 : Int) = 4294967296 := rfl; omega) w (ht w hold).1).mono fun e w' ⟨he, hw⟩ => ⟨?_, by rw [hw]; exact Below.refl _ _⟩
    rw [he]; rfl
theorem sum_tz32 {n0 : Old} (ht : TabsIn n0) : SumOk n0 Tryz.prog 102 (fun pc args => o1P (g1 .tz .u32 .i64 pc args)) := sum_rule (rule_tz32 ht) ⟨Tryz.f102, bodyOf Tryz.f102, Tryz.func102, by kernel_rfl, of_decide_eq_true (by kernel_rfl)⟩
theorem rule_tz64 {n0 : Old} (ht : TabsIn n0) : RuleOk n0 Tryz.prog 105 (g1 .tz .u64 .i64) :=
  g1_rule rfl fun n w h0 h1 hold => by
    refine (tz64 n h0 (by have : (two .u64 : Int) = 18446744073709551616 := rfl; omega) w (ht w hold).2).mono fun e w' ⟨he, hw⟩ => ⟨?_, by rw [hw]; exact Below.refl _ _⟩
    rw [he]; rfl
theorem sum_tz64 {n0 : Old} (ht : TabsIn n0) : SumOk n0 Tryz.prog 105 (fun pc args => o1P (g1 .tz .u64 .i64 pc args)) := sum_rule (rule_tz64 ht) ⟨Tryz.f105, bodyOf Tryz.f105, Tryz.func105, by kernel_rfl, of_decide_eq_true (by kernel_rfl)⟩
theorem rule_one {n0 : Old} : RuleOk n0 Tryz.prog 8 gOne := gOne_rule ref_lz32 ref_tz32 ref_pop32 ref_lz64 ref_tz64 ref_pop64
end Go.Vm.Bits
