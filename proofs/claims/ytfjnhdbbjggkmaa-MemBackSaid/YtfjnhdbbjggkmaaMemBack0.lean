/- The law MemBack: its call answers true. -/
import Derived.Test.YtfjnhdbbjggkmaaStoreC
import Derived.Test.YtfjnhdbbjggkmaaMemSigns0
import Derived.Deep.QuietTactic
import Derived.BigQuiet
set_option linter.unusedVariables false
set_option linter.unusedSimpArgs false
namespace Go.Proofs.Ytfjnhdbbjggkmaa.Mem
open Go.RowKit Go.Proofs.YtfjnhdbbjggkmaaW.PrintWords Go.Proofs.YtfjnhdbbjggkmaaW.PrintLast Go.Proofs.YtfjnhdbbjggkmaaW.PrintMore Go.Proofs.Ytfjnhdbbjggkmaa.PMemBytes
theorem or40 (p : Nat) (hp : p < 40) : Go.bits .or .u64 (p : Int) 1099511627776 = ((p + 1099511627776 : Nat) : Int) := by
  rw [show (1099511627776 : Int) = ((1099511627776 : Nat) : Int) from rfl, u64_or_nat _ _ (by omega) (by omega), Nat.or_comm, show (1099511627776 : Nat) = 1 <<< 40 by decide, ← Nat.shiftLeft_add_eq_or_of_lt (show p < 2 ^ 40 by simp only [Nat.reducePow]; omega)]
  congr 1
  omega
theorem at40 (p q : Nat) (hp : p < 40) (hq : q < 30) : atOf (Go.bits .or .u64 (p : Int) 1099511627776) (q : Int) = p + q := by
  unfold atOf
  rw [or40 p hp]
  rw [show (4294967295 : Int) = ((4294967295 : Nat) : Int) from rfl, u64_and_nat _ _ (by omega) (by omega), show (4294967295 : Nat) = 2 ^ 32 - 1 by decide, Nat.and_two_pow_sub_one_eq_mod, wrap_u64k, wrap_u64k]
  simp only [Nat.reducePow]
  omega
theorem stF_take (l : List Int) (a : Nat) (v : Int) : ∀ k, (stF l a v k).take a = l.take a
  | 0 => rfl
  | k + 1 => by
    show ((stF l a v k).set (a + k) _).take a = _
    rw [List.take_set_of_le (by omega), stF_take l a v k]
theorem stF_drop (l : List Int) (a : Nat) (v : Int) (n : Nat) : ∀ k, k ≤ n → (stF l a v k).drop (a + n) = l.drop (a + n)
  | 0, _ => rfl
  | k + 1, h => by
    show ((stF l a v k).set (a + k) _).drop (a + n) = _
    rw [List.drop_set_of_lt (by omega), stF_drop l a v n k (by omega)]
theorem stF_get (l : List Int) (a : Nat) (v : Int) : ∀ k, a + k ≤ l.length → ∀ i, i < k → (stF l a v k).getD (a + i) 0 = v / 2 ^ (8 * i) % 256
  | k + 1, h, i, hi => by
    show ((stF l a v k).set (a + k) _).getD (a + i) 0 = _
    by_cases e : i = k
    · subst e
      rw [List.getD_eq_getElem?_getD, List.getElem?_set_self (by rw [stF_length]; omega)]; rfl
    · rw [List.getD_eq_getElem?_getD, List.getElem?_set_ne (by omega), ← List.getD_eq_getElem?_getD, stF_get l a v k (by omega) i (by omega)]
theorem stF_bytes {l : List Int} (h : ByteL l) (a : Nat) (v : Int) : ∀ k, ByteL (stF l a v k)
  | 0 => h
  | k + 1 => fun x hx => by
    rcases List.mem_or_eq_of_mem_set hx with h1 | h1
    · exact stF_bytes h a v k x h1
    · subst h1; omega
theorem imod_mul (x : Int) (m : Nat) (hx : 0 ≤ x) : x % (256 * 256 ^ m) = x % 256 + 256 * (x / 256 % 256 ^ m) := by
  obtain ⟨n, rfl⟩ : ∃ n : Nat, x = n := ⟨x.toNat, by omega⟩
  have h := Nat.mod_mul (a := 256) (b := 256 ^ m) (x := n)
  have e : ((256 : Int) ^ m) = ((256 ^ m : Nat) : Int) := by simp [Int.natCast_pow]
  rw [e]
  have h2 := congrArg (fun t : Nat => (t : Int)) h
  simp only [Int.natCast_emod, Int.natCast_add, Int.natCast_mul, Int.natCast_ediv] at h2
  exact h2
theorem info5 : (Try.prog.info? 5).map (fun i => (i.zero, i.size, i.bytes)) = some (some (.int .u8 0), 1, 1) := by kernel_rfl
/-- What was stored is loaded. -/
theorem leP_st (l : List Int) (a : Nat) (v : Int) (hv : 0 ≤ v) (k : Nat) (hk : a + k ≤ l.length) : leP (stF l a v k) a k = v % 256 ^ k := by
  have gen : ∀ m i, i + m = k → leP (stF l a v k) (a + i) m = v / 2 ^ (8 * i) % 256 ^ m := by
    intro m
    induction m with
    | zero => intro i _; simp only [leP, Int.pow_zero]; omega
    | succ m ih =>
      intro i hi
      have e : leP (stF l a v k) (a + i) (m + 1) = (stF l a v k).getD (a + i) 0 + 256 * leP (stF l a v k) (a + i + 1) m := rfl
      have h1 := ih (i + 1) (by omega)
      rw [e, stF_get l a v k hk i (by omega), Nat.add_assoc, h1]
      have e2 : (2 : Int) ^ (8 * (i + 1)) = 2 ^ (8 * i) * 256 := by rw [show 8 * (i + 1) = 8 * i + 8 by omega, Int.pow_add]; rfl
      have hp : (0 : Int) < 2 ^ (8 * i) := Int.pow_pos (by decide)
      rw [e2, ← Int.ediv_ediv_of_nonneg (Int.le_of_lt hp), Int.pow_succ, Int.mul_comm (256 ^ m) 256, imod_mul _ m (Int.ediv_nonneg hv (Int.le_of_lt hp))]
  have := gen k 0 (by omega)
  simpa using this
theorem lit3 (w : World) (o1 o2 o3 : Obj) : (((w.alloc o1).alloc o2).alloc o3).heap[w.heap.size]? = some o1 ∧ (((w.alloc o1).alloc o2).alloc o3).heap[w.heap.size + 1]? = some o2 ∧ (((w.alloc o1).alloc o2).alloc o3).heap[w.heap.size + 1 + 1]? = some o3 := by
  refine ⟨?_, ?_, ?_⟩
  · show (((w.heap.push o1).push o2).push o3)[_]? = _
    rw [Array.getElem?_push, if_neg (by simp only [Array.size_push]; omega), Array.getElem?_push, if_neg (by simp only [Array.size_push]; omega), Array.getElem?_push, if_pos rfl]
  · show (((w.heap.push o1).push o2).push o3)[_]? = _
    rw [Array.getElem?_push, if_neg (by simp only [Array.size_push]; omega), Array.getElem?_push, if_pos (by simp only [Array.size_push])]
  · show (((w.heap.push o1).push o2).push o3)[_]? = _
    rw [Array.getElem?_push, if_pos (by simp only [Array.size_push])]
theorem R_some {w : World} {base : Nat} {ok : Nat → Prop} {A : Option Addr} {n c : Nat} {xs : List Int} (h : Kd.R (Kd.int .u8) 5 w base ok (.slice A n c) xs) (hp : 0 < xs.length) : ∃ g, A = some ⟨g, 0, none⟩ := by
  obtain ⟨_, inner, ho, _⟩ := h
  obtain ⟨h1, h2⟩ := ho
  rcases h2 with ⟨e, h3⟩ | ⟨g, cap, cur, e, h3⟩
  · injection e with e1 e2 e3
    subst e1
    simp_all
    try omega
  · injection e with e1 e2 e3
    exact ⟨g, e1⟩
theorem cut_hi {A : Option Addr} {c : Nat} {l : List Int} {w : World} {m : Nat} (i : Int) (hi : i = m) (h : Kd.C (Kd.int .u8) w A l.length l) (hm : m ≤ l.length) (hc : l.length ≤ c) (n : Nat) (hn : n = l.length) (s : List Int) (hs : l.take m = s) :
    (∀ W, (Instr.slice 22 (.slice A n c) none (some (.int .i64 i)) none).run Try.prog W = .ok (.slice A m c) W) ∧ ∀ k, (convert 22 9 (.slice A m c)).run Try.prog (w.drewN k) = .ok (.string (strOfNums s)) (w.drewN k) := by
  subst hi hn hs
  obtain ⟨i5, h5, _⟩ := Option.map_eq_some_iff.1 info5
  refine ⟨cut_to 22 5 .i64 Try.underlying22 h5 A l.length c m (by omega) (by omega) hc, fun k => ?_⟩
  have := Kd.C_string (c := c) Try.underlying22 Try.underlying5 Try.underlying9 (Kd.C_take (Kd.C_drewN h k) hm)
  rwa [show (l.take m).length = m by rw [List.length_take]; omega] at this
theorem cut_lo {A : Option Addr} {c : Nat} {l : List Int} {w : World} {m : Nat} (i : Int) (hi : i = m) (h : Kd.C (Kd.int .u8) w A l.length l) (hm : m ≤ l.length) (hc : l.length ≤ c) (n : Nat) (hn : n = l.length) (s : List Int) (hs : l.drop m = s) :
    ∃ B n' c', (∀ W, (Instr.slice 22 (.slice A n c) (some (.int .i64 i)) none none).run Try.prog W = .ok (.slice B n' c') W) ∧ ∀ k, (convert 22 9 (.slice B n' c')).run Try.prog (w.drewN k) = .ok (.string (strOfNums s)) (w.drewN k) := by
  subst hi hn hs
  obtain ⟨i5, h5, e5⟩ := Option.map_eq_some_iff.1 info5
  injection e5 with _ e5
  injection e5 with e5 _
  refine ⟨_, _, _, cut_from 22 5 .i64 Try.underlying22 h5 1 e5 A l.length c m (by omega) (by omega), fun k => ?_⟩
  have := Kd.C_string (c := c - m) Try.underlying22 Try.underlying5 Try.underlying9 (Kd.C_drop (Kd.C_drewN h k) hm hc)
  rwa [show (l.drop m).length = l.length - m from List.length_drop] at this
theorem cv_all {A : Option Addr} {c : Nat} {l : List Int} {w : World} (h : Kd.C (Kd.int .u8) w A l.length l) : ∀ k, (convert 22 9 (.slice A l.length c)).run Try.prog (w.drewN k) = .ok (.string (strOfNums l)) (w.drewN k) := fun k => Kd.C_string (c := c) Try.underlying22 Try.underlying5 Try.underlying9 (Kd.C_drewN h k)
end Go.Proofs.Ytfjnhdbbjggkmaa.Mem
