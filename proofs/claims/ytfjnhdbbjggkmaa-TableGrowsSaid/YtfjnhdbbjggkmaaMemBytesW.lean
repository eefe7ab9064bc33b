/- The law MemBytes: its call answers true. -/
import Derived.Test.YtfjnhdbbjggkmaaLeP
import Derived.Test.YtfjnhdbbjggkmaaVmSum
import Derived.DataShut
set_option linter.unusedVariables false
set_option linter.unusedSimpArgs false
namespace Go.Proofs.Ytfjnhdbbjggkmaa.Mem
open Go.RowKit Go.Proofs.YtfjnhdbbjggkmaaW.PrintWords Go.Proofs.YtfjnhdbbjggkmaaW.PrintLast Go.Proofs.YtfjnhdbbjggkmaaW.PrintMore Go.Proofs.Ytfjnhdbbjggkmaa.PMemBytes
theorem row_C {k : IntKind} {W : World} {A : Option Addr} {len cap : Nat} {zs : List Int} (y : Go.Vm.IsRow k W A len cap zs) : (zs.take len).length = len ∧ len ≤ cap ∧ Kd.C (Kd.int k) W A len (zs.take len) ∧ (∀ x ∈ zs.take len, (Lit.int k x).wf = true) := by
  rcases y with ⟨rfl, rfl, rfl, rfl⟩ | ⟨x, rfl, hl, hm, hz, hcell, hwf⟩
  · exact ⟨rfl, Nat.le_refl _, ⟨rfl, by decide, fun h => absurd h (by decide)⟩, fun x hx => by simp at hx⟩
  · have hlen : (zs.take len).length = len := by rw [List.length_take]; omega
    refine ⟨hlen, hl, ⟨hlen, by unfold maxLen at hm; omega, fun _ => ⟨x, rfl, fun j p hj => ⟨[.int k p], rfl, rfl, fun i u hi => ?_⟩⟩⟩, fun x hx => hwf x (List.mem_of_mem_take hx)⟩
    cases i with
    | succ i => simp at hi
    | zero =>
      simp at hi
      subst hi
      have hj2 : j < len := by
        rcases Nat.lt_or_ge j len with h | h
        · exact h
        · rw [List.getElem?_eq_none (by omega)] at hj; cases hj
      have hc := hcell j (by omega)
      have hp : zs.getD j 0 = p := by
        rw [List.getElem?_take] at hj
        rw [if_pos hj2] at hj
        rw [List.getD_eq_getElem?_getD, hj]; rfl
      show W.cell? (x.add (j * 1 + 0)) = some (.int k p)
      rw [← hp, Nat.mul_one, Nat.add_zero]
      exact hc
theorem begun14 (w : World) : Calls Try.prog 12 #[] w fun e w' => e = .returned (.bool true) ∧ Below w.heap.size w w' :=
  Go.Vm.tree_calls (cx := Go.Vm.cx0) Go.Vm.hT_0 Go.Vm.mixed_ok (Go.Vm.hF_0 _) (by decide) (env := fun _ => 0) (d := .leaf (.c true)) Go.Vm.run12 rfl (Go.Vm.rel_nil _ w) .nil
theorem begun15 (w : World) : Calls Try.prog 17 #[] w fun e w' => e = .returned (.bool true) ∧ Below w.heap.size w w' :=
  Go.Vm.tree_calls (cx := Go.Vm.cx0) Go.Vm.hT_0 Go.Vm.mixed_ok (Go.Vm.hF_0 _) (by decide) (env := fun _ => 0) (d := .leaf (.c true)) Go.Vm.run17 rfl (Go.Vm.rel_nil _ w) .nil
theorem and_low32 (x : Int) (h0 : 0 ≤ x) (h1 : x < 4294967296) : Go.bits .and .u64 x 4294967295 = x := by
  obtain ⟨m, rfl⟩ : ∃ m : Nat, x = m := ⟨x.toNat, by omega⟩
  rw [show (4294967295 : Int) = ((4294967295 : Nat) : Int) from rfl, u64_and_nat _ _ (by omega) (by omega)]
  have : m &&& 4294967295 = m % 2 ^ 32 := Nat.and_two_pow_sub_one_eq_mod m 32
  rw [this, Nat.mod_eq_of_lt (by omega)]
theorem atOf_small (base off : Int) (hb : 0 ≤ base ∧ base < 4294967296) (ho : 0 ≤ off ∧ off < 4294967296) : atOf base off = (base + off).toNat := by
  unfold atOf
  rw [and_low32 base hb.1 hb.2, wrap_u64k, wrap_u64k]
  omega
theorem load_u (ad : Addr) (l : List Int) (cap n : Nat) (op base off : Int) (w : World) (hw : ldW op = some n) (hsg : ∀ v, mem_signed.f op v = some v) (hr : Kd.C (Kd.int .u8) w (some ad) l.length l) (hcap : l.length ≤ cap) (hB : ByteL l)
    (hb : 0 ≤ base ∧ base < 4294967296) (ho : 0 ≤ off ∧ off < 4294967296) (hfit : (base + off).toNat + n ≤ l.length) :
    Calls Try.prog 14 #[.slice (some ad) l.length cap, .int .i64 op, .int .u64 base, .int .u32 off] w fun e w' => e = .returned (.tuple #[.int .u64 (leP l (base + off).toNat n), .int .i64 0]) ∧ Drawn0 w w' := by
  have ha := atOf_small base off hb ho
  have hn := (ldW_ok hw).2
  refine load_yes ad l cap n op base off _ w hw hr hcap (by rw [ha]; exact hfit) ?_
  rw [hsg, ha, leF_eq hB n _ hn.2]
theorem sg45 (v : Int) : mem_signed.f 45 v = some v := rfl
theorem sg41 (v : Int) : mem_signed.f 41 v = some v := rfl
theorem sg53 (v : Int) : mem_signed.f 53 v = some v := rfl
set_option maxHeartbeats 2000000 in
theorem memBytes_calls (A : Option Addr) (len cap : Nat) (zs : List Int) (n1 : Int) (w1 : (Lit.int .u8 n1).wf = true) (W : World) (y : Go.Vm.IsRow .u8 W A len cap zs) :
    Calls Try.prog 7 #[.slice A len cap, .int .u8 n1] W fun e W' => e = .returned (.bool true) ∧ Below W.heap.size W W' := by
  obtain ⟨hlen, hcap, hC, hwf⟩ := row_C y
  have r1 := (Lit.wf_int_iff _ _).1 w1
  have m1 : IntKind.min .u8 = 0 := by decide
  have x1 : IntKind.max .u8 = 255 := by decide
  rw [m1, x1] at r1
  have hB : ByteL (zs.take len) := fun x hx => by
    have q := (Lit.wf_int_iff _ _).1 (hwf x hx)
    rw [m1, x1] at q; exact q
  clear hwf y w1 m1 x1
  generalize zs.take len = l at hlen hC hB
  subst hlen
  have HC := Lib.hid hC
  have hmx : l.length ≤ 9223372036854775807 := hC.2.1
  clear hC
  by_cases h8 : 8 ≤ l.length ∧ l.length ≤ 40
  · obtain ⟨ad, rfl, _⟩ := HC.out.2.2 (by omega)
    go_enter Try.func7, Try.ntmps7
    go_wp2_with fail
    refine (begun14 _).mono ?_
    rintro e w' ⟨rfl, hb⟩
    have HC1 := Lib.hid (Kd.C_below HC.out hb)
    go_wp2_with fail
    obtain ⟨k, hk⟩ : ∃ k : Nat, n1 % ((l.length : Int) - 7) = k := ⟨(n1 % ((l.length : Int) - 7)).toNat, by have := Int.emod_nonneg n1 (show (l.length : Int) - 7 ≠ 0 by omega); omega⟩
    have hk2 : k + 8 ≤ l.length := by have := Int.emod_lt_of_pos n1 (show (0 : Int) < (l.length : Int) - 7 by omega); omega
    rw [hk]
    clear hk
    go_loopw [6, 7] (fun s i wr => ∃ j : Nat, j ≤ 8 ∧ i = .int .i64 ((j : Int) - 1) ∧ s = .int .u64 (leP l (k + j) (8 - j)) ∧ Drawn0 w' wr) (fun _ i _ => ((intOf i) + 1).toNat)
    case atStart => exact ⟨8, Nat.le_refl _, rfl, rfl, Drawn0.refl _⟩
    case round =>
      obtain ⟨j, hj, rfl, rfl, hd⟩ := hrel
      have HCr := Lib.hid (Kd.C_below HC1.out hd.below)
      have HD := Lib.hid hd
      clear hd
      rcases Nat.eq_zero_or_pos j with hz | hz
      · subst hz
        have b8 := leP_bd hB 8 k
        have b4 := leP_bd hB 4 k
        have c4 := leP_bd hB 4 (k + 4)
        have q : (leP l (k + 4) 4 == leP l k 8 / 4294967296) = true := by
          have sp := leP_split l 4 4 k
          rw [beq_iff_eq, sp]
          omega
        rw [Nat.add_zero, Nat.sub_zero]
        go_wp2_with fail
        refine (load_u ad l cap 8 41 0 k _ rfl sg41 HCr.out hcap hB (by omega) (by omega) (by omega)).mono ?_
        rintro e w2 ⟨rfl, ⟨nd, rfl⟩⟩
        have HC2 := Lib.hid (Kd.C_below HCr.out (Drawn0.below (⟨⟨nd, rfl⟩⟩ : Drawn0 wr (wr.drewN nd))))
        go_wp2_with fail
        refine (load_u ad l cap 4 53 k 4 _ rfl sg53 HC2.out hcap hB (by omega) (by omega) (by omega)).mono ?_
        rintro e w3 ⟨rfl, ⟨nd2, rfl⟩⟩
        go_wp2
        go_ret
        exact ⟨rfl, hb.trans ((HD.out.step (nd + nd2)).below.mono (by have := hb.size; omega))⟩
      · obtain ⟨m, rfl⟩ : ∃ m, j = m + 1 := ⟨j - 1, by omega⟩
        have em : ((m + 1 : Nat) : Int) - 1 = (m : Int) := by omega
        have bs := leP_bd hB (8 - (m + 1)) (k + (m + 1))
        have b1 := leP_bd hB 1 (k + m)
        have hp := p7 ⟨8 - (m + 1), by omega⟩
        rw [em]
        go_wp2_with fail
        refine (load_u ad l cap 1 45 k m _ rfl sg45 HCr.out hcap hB (by omega) (by omega) (by omega)).mono ?_
        rintro e w2 ⟨rfl, ⟨nd, rfl⟩⟩
        go_wp2
        go_roundw
        case rel =>
          refine ⟨m, by omega, rfl, ?_, HD.out.step nd⟩
          have sp := leP_split l 1 (8 - (m + 1)) (k + m)
          have e8 : 1 + (8 - (m + 1)) = 8 - m := by omega
          rw [e8, Int.pow_one] at sp
          rw [sp]
          refine congrArg (Value.int .u64) ?_
          have b1' : leP l (k + m) 1 < 256 := by have h := b1.2; rwa [Int.pow_one] at h
          have ek : k + m + 1 = k + (m + 1) := by omega
          rw [ek, wrap_u64k, wrap_u64k]
          have e7 : 8 - (m + 1) = 7 - m := by omega
          have bs' := leP_bd hB (7 - m) (k + (m + 1))
          have hp' : (256 : Int) ^ (7 - m) ≤ 72057594037927936 := p7 ⟨7 - m, by omega⟩
          rw [e7]
          have hx : leP l (k + (m + 1)) (7 - m) < 72057594037927936 := Int.lt_of_lt_of_le bs'.2 hp'
          have h0 := bs'.1
          have h1 := b1.1
          clear bs bs' hp hp'
          generalize leP l (k + (m + 1)) (7 - m) = X at hx h0 ⊢
          generalize leP l (k + m) 1 = Y at b1' h1 ⊢
          omega
        case measure => (simp [intOf]; try omega)
  · by_cases h9 : l.length < 8
    · go_enter Try.func7, Try.ntmps7
      go_wp2_with fail
      refine (begun14 _).mono ?_
      rintro e w' ⟨rfl, hb⟩
      go_wp2
      go_ret
      exact ⟨rfl, hb⟩
    · go_enter Try.func7, Try.ntmps7
      go_wp2_with fail
      refine (begun14 _).mono ?_
      rintro e w' ⟨rfl, hb⟩
      go_wp2
      go_ret
      exact ⟨rfl, hb⟩
end Go.Proofs.Ytfjnhdbbjggkmaa.Mem
