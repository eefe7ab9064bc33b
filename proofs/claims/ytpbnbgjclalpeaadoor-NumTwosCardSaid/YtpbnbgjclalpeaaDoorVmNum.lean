/- VM: its numbers are the model's. -/
import Derived.Test.YtpbnbgjclalpeaaDoorVmBase
import Derived.Laws.BitsLemmas
set_option linter.unusedVariables false
set_option linter.unusedSimpArgs false
namespace Go.Vm
theorem ieqb_eq (a b : Int) : ieqb a b = (a == b) := by
  cases a <;> cases b <;> simp only [ieqb, RL.beq_dec]
  all_goals (rw [Bool.eq_iff_iff]; simp)
  all_goals omega
theorem ileb_eq (a b : Int) : ileb a b = decide (a ≤ b) := by
  cases a <;> cases b <;> simp only [ileb, RL.ble_dec] <;> rw [Bool.eq_iff_iff] <;> simp <;> omega
theorem iltb_eq (a b : Int) : iltb a b = decide (a < b) := by
  unfold iltb; rw [ileb_eq, Bool.eq_iff_iff]; simp
theorem keq_eq (a b : IntKind) : keq a b = true ↔ a = b := by cases a <;> cases b <;> decide
theorem two_eq (k : IntKind) : (two k : Int) = 2 ^ k.bits := by cases k <;> rfl
theorem two_nat (k : IntKind) : two k = 2 ^ k.bits := by cases k <;> rfl
theorem bitsN_eq (k : IntKind) : bitsN k = k.bits := by cases k <;> rfl
theorem sgn_eq (k : IntKind) : sgn k = k.signed := by cases k <;> rfl
theorem two_pos (k : IntKind) : 0 < two k := by cases k <;> decide
theorem imod_eq (n : Int) (m : Nat) (hm : 0 < m) : ((imod n m : Nat) : Int) = n % (m : Int) := by
  cases n with
  | ofNat a => rfl
  | negSucc a =>
    show ((Nat.sub (Nat.sub m 1) (a % m) : Nat) : Int) = _
    have h1 : a % m < m := Nat.mod_lt _ hm
    have h2 : Int.negSucc a = (m : Int) - 1 - (a % m : Nat) + (m : Int) * (-1 - (a / m : Nat)) := by
      have := Nat.div_add_mod a m
      rw [Int.negSucc_eq]
      have e : (a : Int) = (m : Int) * ((a / m : Nat) : Int) + ((a % m : Nat) : Int) := by exact_mod_cast this.symm
      rw [e, Int.mul_sub]
      omega
    rw [h2, Int.add_mul_emod_self_left, Int.emod_eq_of_lt (by omega) (by omega)]
    show (((m - 1) - a % m : Nat) : Int) = _
    omega
theorem half (k : IntKind) : two k / 2 = 2 ^ (k.bits - 1) := by cases k <;> rfl
theorem wrapB_eq (k : IntKind) (m : Nat) (h : m < two k) : wrapB (sgn k) m (two k) = k.wrap (m : Int) := by
  have e : ((m : Int) % (2 ^ k.bits : Int)) = m := by rw [← two_eq]; exact Int.emod_eq_of_lt (by omega) (by omega)
  unfold IntKind.wrap
  simp only [e]
  rw [sgn_eq]
  cases hs : k.signed with
  | false => simp [wrapB]
  | true =>
    show (match Nat.ble (two k / 2) m with | true => Int.subNatNat m (two k) | false => Int.ofNat m) = _
    rw [RL.ble_dec, half]
    by_cases hm : 2 ^ (k.bits - 1) ≤ m
    · rw [decide_eq_true hm, if_pos (by simp; exact_mod_cast hm)]
      simp only [Int.subNatNat_eq_coe, two_eq]
    · rw [decide_eq_false hm, if_neg (by simp; exact_mod_cast Nat.lt_of_not_le hm)]
      rfl
theorem wrap_mod (k : IntKind) (n : Int) : k.wrap (n % (two k : Int)) = k.wrap n := by
  unfold IntKind.wrap
  simp only [two_eq, Int.emod_emod]
theorem wrapF_eq (k : IntKind) (n : Int) : wrapF k n = k.wrap n := by
  unfold wrapF
  have h := imod_eq n (two k) (two_pos k)
  rw [wrapB_eq k _ (by have := Int.emod_lt_of_pos n (show (0 : Int) < two k by have := two_pos k; omega); omega), h, wrap_mod]
theorem imod_lt (n : Int) (k : IntKind) : imod n (two k) < two k := by
  have h := imod_eq n (two k) (two_pos k)
  have := Int.emod_lt_of_pos n (show (0 : Int) < two k by have := two_pos k; omega)
  omega
theorem ofInt_nat (k : IntKind) (n : Int) : (BitVec.ofInt k.bits n).toNat = imod n (two k) := by
  have h := imod_eq n (two k) (two_pos k)
  rw [BitVec.toNat_ofInt, ← two_nat, ← h]
  rfl
theorem andF_eq (k : IntKind) (x y : Int) : andF k x y = k.wrap ((BitVec.ofInt k.bits x &&& BitVec.ofInt k.bits y).toNat : Nat) := by
  unfold andF
  rw [BitVec.toNat_and, ofInt_nat, ofInt_nat]
  exact wrapB_eq k _ (by have := imod_lt x k; rw [two_nat] at *; exact Nat.and_lt_two_pow _ (by have := imod_lt y k; rw [two_nat] at this; exact this))
theorem orF_eq (k : IntKind) (x y : Int) : orF k x y = k.wrap ((BitVec.ofInt k.bits x ||| BitVec.ofInt k.bits y).toNat : Nat) := by
  unfold orF
  rw [BitVec.toNat_or, ofInt_nat, ofInt_nat]
  exact wrapB_eq k _ (by have h1 := imod_lt x k; have h2 := imod_lt y k; rw [two_nat] at *; exact Nat.or_lt_two_pow h1 h2)
theorem xorF_eq (k : IntKind) (x y : Int) : xorF k x y = k.wrap ((BitVec.ofInt k.bits x ^^^ BitVec.ofInt k.bits y).toNat : Nat) := by
  unfold xorF
  rw [BitVec.toNat_xor, ofInt_nat, ofInt_nat]
  exact wrapB_eq k _ (by have h1 := imod_lt x k; have h2 := imod_lt y k; rw [two_nat] at *; exact Nat.xor_lt_two_pow h1 h2)
theorem andNotF_eq (k : IntKind) (x y : Int) : andNotF k x y = k.wrap ((BitVec.ofInt k.bits x &&& ~~~BitVec.ofInt k.bits y).toNat : Nat) := by
  unfold andNotF
  rw [BitVec.toNat_and, BitVec.toNat_not, ofInt_nat, ofInt_nat, ← two_nat]
  exact wrapB_eq k _ (Nat.lt_of_le_of_lt Nat.and_le_left (imod_lt x k))
theorem isub_eq (a b : Int) : isub a b = a - b := by
  cases a <;> cases b <;> first | rfl | (show Int.subNatNat _ _ = _; rw [Int.subNatNat_eq_coe]; rfl)
theorem forceI_eq (n : Int) : forceI n = .c n := by
  cases n with
  | ofNat n => cases n <;> rfl
  | negSucc n => cases n <;> rfl
variable (env : Nat → Int)
theorem mkWrap_den (e : IE) (k : IntKind) : (mkWrap e k).den env = k.wrap (e.den env) := by
  cases e <;> first
    | (show (forceI (wrapF k _)).den env = _; rw [forceI_eq, wrapF_eq]; rfl)
    | (show wrapF k _ = _; rw [wrapF_eq])
theorem mkBin_den (a b : IE) (o : IOp) (k : IntKind) : (mkBin a o k b).den env = o.den k (a.den env) (b.den env) := by
  cases a <;> first | rfl | skip
  cases b <;> first | rfl | (show (forceI (o.den k _ _)).den env = _; rw [forceI_eq]; rfl)
theorem mkLt_den (a b : IE) : (mkLt a b).den env = decide (a.den env < b.den env) := by
  cases a <;> cases b <;> first | (show iltb _ _ = _; rw [iltb_eq]; rfl) | (show iltb _ _ = _; rw [iltb_eq])
theorem mkLe_den (a b : IE) : (mkLe a b).den env = decide (a.den env ≤ b.den env) := by
  cases a <;> cases b <;> first | (show ileb _ _ = _; rw [ileb_eq]; rfl) | (show ileb _ _ = _; rw [ileb_eq])
theorem iopN_inj : ∀ o p : IOp, Nat.beq (iopN o) (iopN p) = true → o = p := by
  intro o p h
  cases o <;> cases p <;> first | rfl | cases h
theorem IE.beq_eq : ∀ a b : IE, IE.beq a b = true → a = b
  | .c x, b, h => by
    cases b <;> first | (cases h; done) | skip
    simp only [IE.beq, ieqb_eq] at h
    have := (beq_iff_eq (α := Int)).1 h
    rw [this]
  | .v i, b, h => by
    cases b <;> first | (cases h; done) | skip
    rw [Nat.eq_of_beq_eq_true h]
  | .wrap k a, b, h => by
    cases b <;> first | (cases h; done) | skip
    simp only [IE.beq, Bool.and_eq_true] at h
    rw [(keq_eq _ _).1 h.1, IE.beq_eq a _ h.2]
  | .bin o k a b, d, h => by
    cases d <;> first | (cases h; done) | skip
    simp only [IE.beq, Bool.and_eq_true] at h
    rw [iopN_inj _ _ h.1.1.1, (keq_eq _ _).1 h.1.1.2, IE.beq_eq a _ h.1.2, IE.beq_eq b _ h.2]
theorem mkEq_den (a b : IE) : (mkEq a b).den env = (a.den env == b.den env) := by
  have y : (eqY a b (IE.beq a b)).den env = (a.den env == b.den env) := by
    cases h : IE.beq a b with
    | true => rw [IE.beq_eq a b h]; show true = _; simp
    | false => show ieqb _ _ = _; rw [ieqb_eq]
  cases a with
  | c x => cases b <;> first | (show ieqb _ _ = _; rw [ieqb_eq]; rfl) | (show ieqb _ _ = _; rw [ieqb_eq])
  | _ => exact y
theorem mkNot_den (a : BE) : (mkNot a).den env = !a.den env := by
  cases a <;> first | rfl | (rename_i x; show x.den env = !(!(x.den env)); rw [Bool.not_not])
/-! ### decisions -/
section dec
variable {env : Nat → Int}
theorem BE.beq_eq : ∀ a b : BE, BE.beq a b = true → a = b
  | .c x, b, h => by
    cases b <;> first | (cases h; done) | skip
    simp only [BE.beq] at h
    have := (beq_iff_eq (α := Bool)).1 h
    rw [this]
  | .lt a b, d, h => by
    cases d <;> first | (cases h; done) | skip
    simp only [BE.beq, Bool.and_eq_true] at h
    rw [IE.beq_eq _ _ h.1, IE.beq_eq _ _ h.2]
  | .le a b, d, h => by
    cases d <;> first | (cases h; done) | skip
    simp only [BE.beq, Bool.and_eq_true] at h
    rw [IE.beq_eq _ _ h.1, IE.beq_eq _ _ h.2]
  | .eq a b, d, h => by
    cases d <;> first | (cases h; done) | skip
    simp only [BE.beq, Bool.and_eq_true] at h
    rw [IE.beq_eq _ _ h.1, IE.beq_eq _ _ h.2]
  | .not a, d, h => by
    cases d <;> first | (cases h; done) | skip
    rw [BE.beq_eq a _ h]
def PcOk (env : Nat → Int) (pc : List (BE × Bool)) : Prop := ∀ x ∈ pc, x.1.den env = x.2
theorem known_ok : ∀ {pc : List (BE × Bool)} (_ : PcOk env pc) {e : BE} {b : Bool}, known pc e = some b → e.den env = b
  | [], _, _, _, h => by cases h
  | (x, d) :: pc, hp, e, b, h => by
    simp only [known] at h
    cases hb : BE.beq x e with
    | true =>
      rw [hb] at h
      cases h
      rw [← BE.beq_eq x e hb]
      exact hp (x, d) List.mem_cons_self
    | false =>
      rw [hb] at h
      exact known_ok (fun y hy => hp y (List.mem_cons_of_mem _ hy)) h
theorem dec_ok {cx : Cx} (hp : PcOk env cx.pc) {e : BE} {b : Bool} (h : cx.dec e = some b) : e.den env = b := by
  have h : decE e cx.pc = some b := h
  cases e with
  | c x => cases h; rfl
  | not e =>
    simp only [decE] at h
    cases hk : known cx.pc e with
    | some c =>
      rw [hk] at h
      cases h
      show (!e.den env) = _
      rw [known_ok hp hk]
    | none => rw [hk] at h; exact known_ok hp h
  | _ => exact known_ok hp h
end dec

end Go.Vm
