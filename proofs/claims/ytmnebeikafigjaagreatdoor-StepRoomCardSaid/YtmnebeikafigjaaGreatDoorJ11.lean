/- Lemmas of the walk, part 11. -/
import Derived.Test.YtmnebeikafigjaaGreatDoorJ10
import Derived.Laws.BytesArg
import Derived.Test.YtmnebeikafigjaaGreatDoorJ9
import Derived.BigQuiet
/- LinkData's call answers true, in any world, and leaves all that was there. -/
set_option linter.unusedVariables false
set_option linter.unusedSimpArgs false
namespace Go.Vm
/-- How a slice of numbers comes in. -/
def IsRow (k : IntKind) (w : World) (a : Option Addr) (len cap : Nat) (zs : List Int) : Prop :=
  (a = none ∧ len = 0 ∧ cap = 0 ∧ zs = []) ∨
  ∃ x, a = some x ∧ len ≤ cap ∧ cap ≤ maxLen ∧ zs.length = cap ∧ (∀ i, i < zs.length → w.cell? (x.add i) = some (.int k (zs.getD i 0))) ∧ ∀ n ∈ zs, (Lit.int k n).wf = true
end Go.Vm
namespace Go.Proofs.YtmnebeikafigjaaGreatDoor
open Go.RowKit Go.Sep Go.St
theorem row_arg {w : World} {a : Option Addr} {n c : Nat} {zs : List Int} (h : Go.Vm.IsRow .u8 w a n c zs) : ∃ bs : List Int, bs.length = n ∧ RdL w (AllB w) 1 (num1 .u8) (.slice a n c) bs ∧ ∀ x ∈ bs, 0 ≤ x ∧ x < 256 := by
  rcases h with ⟨rfl, rfl, rfl, rfl⟩ | ⟨x, rfl, hl, hm, hz, hc, hw⟩
  · exact ⟨[], rfl, rdl_nil, fun x h => by simp at h⟩
  · refine ⟨zs.take n, by rw [List.length_take]; omega, ?_, fun y hy => ?_⟩
    · refine ⟨some x, c, by rw [List.length_take, hz, Nat.min_eq_left hl], by rw [List.length_take]; omega, by rw [List.length_take]; omega, fun hp => ?_, fun h => nomatch h⟩
      rw [List.length_take] at hp
      have h0 := hc 0 (by omega)
      obtain ⟨b, o, sp⟩ := x
      have hsp : sp = none := by
        cases sp with
        | none => rfl
        | some s =>
          rw [show (Addr.mk b o (some s)).add 0 = ⟨b, o, some s⟩ by unfold Addr.add; simp] at h0
          unfold World.cell? at h0
          cases hh : w.heap[b]? with
          | none => rw [hh] at h0; cases h0
          | some ob => cases ob <;> (rw [hh] at h0; first | cases h0 | (simp at h0))
      subst hsp
      have hadd : ∀ i, (Addr.mk b o none).add i = ⟨b, o + i, none⟩ := fun i => by unfold Addr.add; split <;> simp_all
      have hbl : b < w.heap.size := World.block_lt_of_cell? _ _ (by have := hc 0 (by omega); rw [hadd] at this; exact this)
      refine ⟨b, o, rfl, hbl, fun k y hy => ?_⟩
      have hk : k < n := by have := (List.getElem?_eq_some_iff.1 hy).1; rw [List.length_take] at this; omega
      rw [List.getElem?_take, if_pos hk] at hy
      refine ⟨[.int .u8 y], rfl, rfl, fun j u hu => ?_⟩
      have hj : j = 0 := by have := (List.getElem?_eq_some_iff.1 hu).1; simp at this; omega
      subst hj
      cases hu
      have := hc k (by omega)
      rw [hadd, List.getD_eq_getElem?_getD, hy] at this
      simpa using this
    · have h1 := hw y (List.mem_of_mem_take hy)
      simp [Lit.wf, IntKind.min, IntKind.max, IntKind.signed, IntKind.bits] at h1
      omega
/-- A row of bytes as a string. -/
theorem conv_bytes {w : World} {S : Nat → Prop} {A : Option Addr} {n c : Nat} {bs : List Int} (h : RdL w S 1 (num1 .u8) (.slice A n c) bs) : (convert 34 9 (.slice A n c)).run Tryz.prog w = .ok (.string (strOfNums bs)) w := by
  obtain ⟨A', c', e, h1, h2, h3, h4⟩ := id h
  cases e
  cases A with
  | none =>
    obtain rfl := h4 rfl
    obtain rfl : bs = [] := List.eq_nil_of_length_eq_zero (by omega)
    exact run_convert_bytes_nil w _ 5 Tryz.underlying34 Tryz.underlying5 0 0 _ Tryz.underlying9
  | some a =>
    rcases Nat.eq_zero_or_pos bs.length with h0 | hp
    · obtain rfl : bs = [] := List.eq_nil_of_length_eq_zero h0
      obtain ⟨b, o, s⟩ := a
      simp only [List.length_nil]
      rw [run_convert_bytes_string w _ _ 5 _ 0 c Tryz.underlying34 Tryz.underlying5 Tryz.underlying9]
      simp [Conv.bytesToString, loadCells, loadCellsFrom, strOfNums]
      rfl
    · obtain ⟨b, o, e, hS, hc⟩ := h3 hp
      cases e
      refine run_convert_bytes_arg w _ 5 Tryz.underlying34 Tryz.underlying5 b o bs.length c bs rfl (fun i hi => ?_) _ Tryz.underlying9
      obtain ⟨cs, _, rfl, g⟩ := hc i bs[i] (List.getElem?_eq_getElem hi)
      have := g 0 _ rfl
      rw [List.getD_eq_getElem?_getD, List.getElem?_eq_getElem hi]
      simpa using this
end Go.Proofs.YtmnebeikafigjaaGreatDoor
/- LinkData's walk. -/
set_option linter.unusedVariables false
set_option linter.unusedSimpArgs false
namespace Go.Proofs.YtmnebeikafigjaaGreatDoor
open Go.RowKit Go.Sep Go.St
/-- What one cell of memory is when bytes were laid. -/
theorem laid_get {q0 : Nat} {bs : List Int} (h : q0 + bs.length ≤ 65536) (k : Nat) (hk : k < 65536) : ∃ v : Int, (ints .u8 (laid memX q0 bs))[k]? = some (.int .u8 v) ∧ (k < q0 ∨ q0 + bs.length ≤ k → v = 0) := by
  have hm : memX = List.replicate 65536 0 := by unfold memX; rfl
  have hml : memX.length = 65536 := by unfold memX; exact List.length_replicate
  have hl : (laid memX q0 bs).length = 65536 := by rw [laid_len (by rw [hml]; exact h), hml]
  refine ⟨(laid memX q0 bs)[k]'(by omega), ints_get _ _ _ _ (List.getElem?_eq_getElem _), fun hor => ?_⟩
  have e : (laid memX q0 bs)[k]? = some 0 := by
    unfold laid
    have hz : ∀ j, j < 65536 → memX[j]? = some 0 := fun j hj => by rw [hm, List.getElem?_replicate, if_pos hj]
    have ht : (memX.take q0).length = q0 := by rw [List.length_take, hml]; omega
    rcases hor with h1 | h1
    · rw [List.append_assoc, List.getElem?_append_left (by omega), List.getElem?_take, if_pos h1]
      exact hz k hk
    · rw [List.getElem?_append_right (by rw [List.length_append]; omega), List.getElem?_drop, List.length_append, ht]
      rw [show q0 + bs.length + (k - (q0 + bs.length)) = k by omega]
      exact hz k hk
  have := List.getElem?_eq_getElem (show k < (laid memX q0 bs).length by omega)
  rw [e] at this
  exact (Option.some.inj this).symm
theorem laid_mid {q0 : Nat} {bs l : List Int} (h : q0 + bs.length ≤ l.length) (i : Nat) (x : Int) (hx : bs[i]? = some x) : (laid l q0 bs)[q0 + i]? = some x := by
  have hi := (List.getElem?_eq_some_iff.1 hx).1
  have ht : (l.take q0).length = q0 := by rw [List.length_take]; omega
  unfold laid
  rw [List.append_assoc, List.getElem?_append_right (by omega), ht, show q0 + i - q0 = i by omega, List.getElem?_append_left hi]
  exact hx
theorem slice_both {t e : TypeId} {i : TypeInfo} (ht : Tryz.prog.underlying t = some (.slice e)) (hi : Tryz.prog.info? e = some i) (hsz : i.size = 1) (A : Option Addr) (n c l h : Nat) (h1 : l ≤ h) (h2 : h ≤ c) :
    ∀ W : World, (Instr.slice t (.slice A n c) (some (.int .i64 (l : Int))) (some (.int .i64 (h : Int))) none).run Tryz.prog W = .ok (.slice (if c = l then A else A.map (·.add l)) (h - l) (c - l)) W := by
  intro W
  have hel : Tryz.prog.elem t = e := by simp [Program.elem, ht]
  have hu : Tryz.prog.underlying t = some (.slice (Tryz.prog.elem t)) := by rw [hel]; exact ht
  rw [run_slice_lh W t A n c hu .i64 .i64 (l : Int) (h : Int) (by omega) (by omega) (by omega), hel]
  simp [sizeOf, typeInfo, hi, hsz, sliced, Result.andThen]
/-- What Make has left, as the law looks at it. -/
structure Left (w : World) (iB q0 : Nat) (bs : List Int) : Prop where
  mem : ∃ g mc, w.cell? ⟨iB, 14, none⟩ = some (.slice (some ⟨g, 0, none⟩) 65536 mc) ∧ 65536 ≤ mc ∧ mc ≤ maxLen ∧ ∀ k v, (ints .u8 (laid memX q0 bs))[k]? = some v → w.cell? ⟨g, k, none⟩ = some v
  das : ∃ g dc, w.cell? ⟨iB, 18, none⟩ = some (.slice (some ⟨g, 0, none⟩) 1 dc) ∧ w.cell? ⟨g, 0, none⟩ = some (.bool true)
theorem left_of {w : World} {S : Nat → Prop} {L : Key → Option Ck} {u iB q0 : Nat} {M : Mo} {bs : List Int} (h : Si w S L u iB M { fixedI [] 0 with mem := laid memX q0 bs, das := [true] }) (hl : q0 + bs.length ≤ 65536) : Left w iB q0 bs := by
  obtain ⟨mc, bv, mv, tv, gv, ev, dv, h1, h2, _, h4, _, _, _, h8⟩ := h.ins
  have hm : memX.length = 65536 := by unfold memX; exact List.length_replicate
  have c14 := h.sep.cell0 h1 14 mv (by rw [List.getElem?_append_right (by rw [h2.len]; omega), h2.len]; rfl)
  have c18 := h.sep.cell0 h1 18 dv (by rw [List.getElem?_append_right (by rw [h2.len]; omega), h2.len]; rfl)
  have r4 := h.sep.holds _ _ h4
  have r8 := h.sep.holds _ _ h8
  obtain ⟨A, n, c, rfl, hnc, hcm, hx, _⟩ := Row.rd r4
  rw [ints_len, Nat.mul_one] at hx
  have hx : (laid memX q0 bs).length = n := hx
  rw [laid_len (by omega), hm] at hx
  subst hx
  obtain ⟨A2, n2, c2, rfl, _, _, hx2, _⟩ := Row.rd r8
  rw [bools_len, Nat.mul_one] at hx2
  have hx2 : 1 = n2 := hx2
  subst hx2
  refine ⟨?_, ?_⟩
  · obtain ⟨v, hv, _⟩ := laid_get hl 0 (by omega)
    obtain ⟨g, rfl, _⟩ := Row.cellAt r4 0 _ hv
    refine ⟨g, c, c14, hnc, hcm, fun k v hk => ?_⟩
    obtain ⟨g', e, hc⟩ := Row.cellAt r4 k v hk
    cases e
    exact hc
  · obtain ⟨g, rfl, hc⟩ := Row.cellAt r8 0 (.bool true) rfl
    exact ⟨g, c2, c18, hc⟩
end Go.Proofs.YtmnebeikafigjaaGreatDoor
/- The reference's Blocks, in plain words: it comes to what ctrl's walker comes to. -/
set_option linter.unusedVariables false
set_option linter.unusedSimpArgs false
namespace Go.Proofs.YtmnebeikafigjaaGreatDoor
open Go.RowKit Go.Sep Go.St
def stepF (l : List Ins) (at_ : Nat) (s : List Int × Es) : Option (List Int × Es) :=
  let op := opA l at_
  if op = 2 ∨ op = 3 ∨ op = 4 then some (s.1 ++ [(at_ : Int)], setE s.2 at_ (-1, -1))
  else if op = 5 then match s.1.getLast? with
    | some k => if opA l k = 4 ∧ ((getE s.2 k).getD (0, 0)).1 < 0 then some (s.1, setE s.2 k (at_, ((getE s.2 k).getD (0, 0)).2)) else none
    | none => none
  else if op = 11 then match s.1.getLast? with
    | some k => some (s.1.dropLast, setE s.2 k (((getE s.2 k).getD (0, 0)).1, at_))
    | none => none
  else some s
/-- Nobody but the last instruction ends the function. -/
def runF (l : List Ins) : Nat → Option (List Int × Es)
  | 0 => some ([], [])
  | n + 1 => match runF l n with
    | some s => stepF l n s
    | none => none
structure RelF (s f : List Int × Es) : Prop where
  st : f.1 = s.1
  len : f.2.length = s.2.length
  get : ∀ k, getE f.2 k = if k ∈ s.1 then (getE s.2 k).map (fun p => (p.1, -1)) else getE s.2 k
structure InvE (n : Nat) (s : List Int × Es) : Prop where
  nd : s.1.Nodup
  lt : ∀ k ∈ s.1, 0 ≤ k ∧ k < (n : Int)
  has : ∀ k ∈ s.1, (getE s.2 k).isSome = true
  all : ∀ k, (getE s.2 k).isSome = true → 0 ≤ k ∧ k < (n : Int)
theorem getLast_split {l : List Int} {k : Int} (h : l.getLast? = some k) : ∃ r, l = r ++ [k] := List.getLast?_eq_some_iff.1 h
theorem stepE_invE (l : List Ins) (n : Nat) (s s' : List Int × Es) (h : stepE l n s = some s') (hi : InvE n s) : InvE (n + 1) s' := by
  have w : ∀ k : Int, 0 ≤ k ∧ k < (n : Int) → 0 ≤ k ∧ k < ((n + 1 : Nat) : Int) := fun k h => ⟨h.1, by omega⟩
  unfold stepE at h
  simp only at h
  split at h
  · cases h
    have hn : (n : Int) ∉ s.1 := fun hm => by have := (hi.lt _ hm).2; omega
    refine ⟨?_, fun k hk => ?_, fun k hk => ?_, fun k hk => ?_⟩
    · rw [List.nodup_append]
      refine ⟨hi.nd, by simp, fun a ha b hb e => ?_⟩
      rw [List.mem_singleton] at hb
      subst e hb
      exact hn ha
    · rcases List.mem_append.1 hk with h | h
      · exact w k (hi.lt k h)
      · rw [List.mem_singleton] at h; omega
    · show (getE (setE s.2 n (-1, 0)) k).isSome = true
      rw [getE_set]
      split
      · rfl
      · rename_i hne
        rcases List.mem_append.1 hk with h | h
        · exact hi.has k h
        · rw [List.mem_singleton] at h; exact absurd h hne
    · have hk : (getE (setE s.2 n (-1, 0)) k).isSome = true := hk
      rw [getE_set] at hk
      split at hk
      · omega
      · exact w k (hi.all k hk)
  split at h
  · split at h
    · rename_i k0 hk0
      split at h
      · cases h
        obtain ⟨r, hr⟩ := getLast_split hk0
        have hm : k0 ∈ s.1 := by rw [hr]; simp
        refine ⟨hi.nd, fun k hk => w k (hi.lt k hk), fun k hk => ?_, fun k hk => ?_⟩
        · show (getE (setE s.2 k0 (n, 0)) k).isSome = true
          rw [getE_set]
          split
          · rfl
          · exact hi.has k hk
        · have hk : (getE (setE s.2 k0 (n, 0)) k).isSome = true := hk
          rw [getE_set] at hk
          split at hk
          · rename_i e; subst e; exact w k (hi.lt k hm)
          · exact w k (hi.all k hk)
      · cases h
    · cases h
  split at h
  · split at h
    · rename_i k0 hk0
      cases h
      obtain ⟨r, hr⟩ := getLast_split hk0
      have hm : k0 ∈ s.1 := by rw [hr]; simp
      have hsub : ∀ k ∈ s.1.dropLast, k ∈ s.1 := fun k hk => (List.dropLast_sublist s.1).subset hk
      refine ⟨hi.nd.sublist (List.dropLast_sublist _), fun k hk => w k (hi.lt k (hsub k hk)), fun k hk => ?_, fun k hk => ?_⟩
      · show (getE (setE s.2 k0 _) k).isSome = true
        rw [getE_set]
        split
        · rfl
        · exact hi.has k (hsub k hk)
      · have hk : (getE (setE s.2 k0 _) k).isSome = true := hk
        rw [getE_set] at hk
        split at hk
        · rename_i e; subst e; exact w k (hi.lt k hm)
        · exact w k (hi.all k hk)
    · split at h
      · cases h
        exact ⟨hi.nd, fun k hk => w k (hi.lt k hk), hi.has, fun k hk => w k (hi.all k hk)⟩
      · cases h
  · cases h
    exact ⟨hi.nd, fun k hk => w k (hi.lt k hk), hi.has, fun k hk => w k (hi.all k hk)⟩
theorem runE_invE (l : List Ins) : ∀ (n : Nat) (s : List Int × Es), runE l n = some s → InvE n s
  | 0, s, h => by
    cases h
    exact ⟨List.nodup_nil, fun k h => by simp at h, fun k h => by simp at h, fun k h => by simp [getE] at h⟩
  | n + 1, s, h => by
    unfold runE at h
    cases hr : runE l n with
    | none => rw [hr] at h; cases h
    | some s0 =>
      rw [hr] at h
      exact stepE_invE l n s0 s h (runE_invE l n s0 hr)
theorem stepF_rel (l : List Ins) (n : Nat) (s s' f : List Int × Es) (h : stepE l n s = some s') (hn : n + 1 < l.length) (hi : InvE n s) (hr : RelF s f) : ∃ f', stepF l n f = some f' ∧ RelF s' f' := by
  have hiss : ∀ k, (getE f.2 k).isSome = (getE s.2 k).isSome := fun k => by rw [hr.get]; split <;> simp
  unfold stepE at h
  unfold stepF
  simp only at h ⊢
  split at h
  · rename_i hA
    rw [if_pos hA]
    cases h
    have hnm : (n : Int) ∉ s.1 := fun hm => by have := (hi.lt _ hm).2; omega
    refine ⟨_, rfl, by rw [hr.st], ?_, fun k => ?_⟩
    · show (setE f.2 n (-1, -1)).length = (setE s.2 n (-1, 0)).length
      rw [set_len, set_len, hiss, hr.len]
    · show getE (setE f.2 n (-1, -1)) k = if k ∈ s.1 ++ [(n : Int)] then (getE (setE s.2 n (-1, 0)) k).map (fun p => (p.1, -1)) else getE (setE s.2 n (-1, 0)) k
      rw [getE_set, getE_set]
      by_cases e : k = n
      · subst e; simp
      · rw [if_neg e, if_neg e, hr.get]
        simp [e]
  rename_i hA
  rw [if_neg hA]
  split at h
  · rename_i h5
    rw [if_pos h5, hr.st]
    split at h
    · rename_i k0 hk0
      simp only [hk0]
      split at h
      · rename_i hc
        cases h
        obtain ⟨r, hrr⟩ := getLast_split hk0
        have hm : k0 ∈ s.1 := by rw [hrr]; simp
        have hs0 := hi.has k0 hm
        have hg : getE f.2 k0 = some (((getE s.2 k0).getD (0, 0)).1, -1) := by
          rw [hr.get, if_pos hm]
          cases hgg : getE s.2 k0 with
          | none => rw [hgg] at hs0; cases hs0
          | some p => rfl
        rw [hg]
        simp only [Option.getD_some]
        rw [if_pos ⟨hc.1, by rw [hc.2]; omega⟩]
        refine ⟨_, rfl, rfl, ?_, fun k => ?_⟩
        · show (setE f.2 k0 _).length = (setE s.2 k0 _).length
          rw [set_len, set_len, hiss, hr.len]
        · show getE (setE f.2 k0 _) k = if k ∈ s.1 then (getE (setE s.2 k0 _) k).map (fun p => (p.1, -1)) else getE (setE s.2 k0 _) k
          rw [getE_set, getE_set]
          by_cases e : k = k0
          · subst e; simp [hm]
          · rw [if_neg e, if_neg e, hr.get]
      · cases h
    · cases h
  rename_i h5
  rw [if_neg h5]
  split at h
  · rename_i h11
    rw [if_pos h11, hr.st]
    split at h
    · rename_i k0 hk0
      simp only [hk0]
      cases h
      obtain ⟨r, hrr⟩ := getLast_split hk0
      have hm : k0 ∈ s.1 := by rw [hrr]; simp
      have hnd := hi.nd
      rw [hrr] at hnd
      have hk0r : k0 ∉ r := fun hmm => by
        have := (List.nodup_append.1 hnd).2.2 k0 hmm k0 (by simp)
        exact this rfl
      have hdl : s.1.dropLast = r := by rw [hrr]; simp
      have hs0 := hi.has k0 hm
      have hg : getE f.2 k0 = some (((getE s.2 k0).getD (0, 0)).1, -1) := by
        rw [hr.get, if_pos hm]
        cases hgg : getE s.2 k0 with
        | none => rw [hgg] at hs0; cases hs0
        | some p => rfl
      rw [hg]
      simp only [Option.getD_some]
      refine ⟨_, rfl, rfl, ?_, fun k => ?_⟩
      · show (setE f.2 k0 _).length = (setE s.2 k0 _).length
        rw [set_len, set_len, hiss, hr.len]
      · show getE (setE f.2 k0 _) k = if k ∈ s.1.dropLast then (getE (setE s.2 k0 _) k).map (fun p => (p.1, -1)) else getE (setE s.2 k0 _) k
        rw [getE_set, getE_set, hdl]
        by_cases e : k = k0
        · subst e; simp [hk0r]
        · rw [if_neg e, if_neg e, hr.get]
          have : (k ∈ s.1) = (k ∈ r) := by rw [hrr]; simp [e]
          simp only [this]
    · split at h
      · omega
      · cases h
  · rename_i h11
    rw [if_neg h11]
    cases h
    exact ⟨f, rfl, hr⟩
theorem runF_rel (l : List Ins) : ∀ (n : Nat) (s : List Int × Es), n < l.length → runE l n = some s → ∃ f, runF l n = some f ∧ RelF s f
  | 0, s, _, h => by
    cases h
    exact ⟨_, rfl, rfl, rfl, fun k => by simp [getE]⟩
  | n + 1, s, hn, h => by
    unfold runE at h
    cases hr : runE l n with
    | none => rw [hr] at h; cases h
    | some s0 =>
      rw [hr] at h
      obtain ⟨f, hf, hrel⟩ := runF_rel l n s0 (by omega) hr
      obtain ⟨f', hf', hrel'⟩ := stepF_rel l n s0 s f h hn (runE_invE l n s0 hr) hrel
      exact ⟨f', by unfold runF; rw [hf]; exact hf', hrel'⟩
/-- Each block that is open or has been closed is in the map. -/
theorem ends_run (l : List Ins) : ∀ (n : Nat) (s : List Int × Es), n < l.length → runE l n = some s → endsN l n + s.1.length = s.2.length
  | 0, s, _, h => by
    cases h
    simp [endsN]
  | n + 1, s, hn, h => by
    have hlt : n < l.length := by omega
    have hx : l[n]? = some l[n] := List.getElem?_eq_getElem hlt
    have hop : opA l (n : Int) = l[n].op := by simp [opA, hx]
    unfold runE at h
    cases hr : runE l n with
    | none => rw [hr] at h; cases h
    | some s0 =>
      rw [hr] at h
      have ih := ends_run l n s0 hlt hr
      have hi := runE_invE l n s0 hr
      rw [endsN_succ l n _ hx, ← hop]
      unfold stepE at h
      simp only at h
      split at h
      · rename_i hA
        cases h
        have hnm : (getE s0.2 (n : Int)).isSome = false := by
          cases hg : getE s0.2 (n : Int) with
          | none => rfl
          | some p => have := hi.all n (by rw [hg]; rfl); omega
        simp only [List.length_append, List.length_singleton, set_len, hnm, Bool.false_eq_true, if_false]
        rw [if_neg (by omega)]
        omega
      split at h
      · rename_i h5
        rw [if_neg (by omega)]
        split at h
        · rename_i k0 hk0
          split at h
          · cases h
            obtain ⟨r, hrr⟩ := getLast_split hk0
            have hs0 := hi.has k0 (by rw [hrr]; simp)
            simp only [set_len, hs0, if_true]
            omega
          · cases h
        · cases h
      split at h
      · rename_i h11
        rw [if_pos h11]
        split at h
        · rename_i k0 hk0
          cases h
          obtain ⟨r, hrr⟩ := getLast_split hk0
          have hs0 := hi.has k0 (by rw [hrr]; simp)
          have hl : 0 < s0.1.length := by rw [hrr]; simp
          simp only [set_len, hs0, if_true, List.length_dropLast]
          omega
        · split at h
          · omega
          · cases h
      · rename_i h11
        rw [if_neg h11]
        cases h
        omega
/-- Ahead of the last instruction nothing is open. -/
theorem WalkOk.lastF {l : List Ins} {es : Es} (h : WalkOk l es) : ∃ es', runF l (l.length - 1) = some ([], es') ∧ es'.length = es.length ∧ ∀ k, getE es' k = getE es k := by
  have hne := h.ne
  obtain ⟨s, hs⟩ := h.at_ (l.length - 1) (by omega)
  obtain ⟨s', h1, h2⟩ := h.step (l.length - 1) (by omega) s hs
  rw [show l.length - 1 + 1 = l.length by omega, h.run] at h1
  cases h1
  have he := ends_run l (l.length - 1) s (by omega) hs
  have hx : l[l.length - 1]? = some (l[l.length - 1]'(by omega)) := List.getElem?_eq_getElem (by omega)
  have hop : (l[l.length - 1]'(by omega)).op = 11 := by
    have := h.last
    simpa [opA, hx] using this
  have hsu := endsN_succ l (l.length - 1) _ hx
  rw [show l.length - 1 + 1 = l.length by omega, h.ends, if_pos hop] at hsu
  have hi := runE_invE l _ s hs
  unfold stepE at h2
  simp only [h.last] at h2
  simp only [show ¬ ((11 : Int) = 2 ∨ (11 : Int) = 3 ∨ (11 : Int) = 4) by decide, if_false, show ¬ (11 : Int) = 5 by decide, if_true] at h2
  split at h2
  · rename_i k0 hk0
    exfalso
    injection h2 with h2
    injection h2 with h2a h2b
    obtain ⟨r, hrr⟩ := getLast_split hk0
    have hs0 := hi.has k0 (by rw [hrr]; simp)
    have hlen : es.length = s.2.length := by rw [← h2b, set_len, hs0]; rfl
    have hl : s.1.length = 1 := by
      have : s.1.dropLast.length = 0 := by rw [h2a]; rfl
      have h3 : 0 < s.1.length := by rw [hrr]; simp
      simp only [List.length_dropLast] at this
      omega
    omega
  · rename_i hk0
    split at h2
    · cases h2
      obtain ⟨f, hf, hrel⟩ := runF_rel l _ _ (by omega) hs
      obtain ⟨fa, fb⟩ := f
      have e1 : fa = [] := hrel.st
      subst e1
      exact ⟨fb, hf, hrel.len, fun k => by have := hrel.get k; simpa using this⟩
    · cases h2
theorem runF_at {l : List Ins} {s : List Int × Es} : ∀ (n d : Nat), runF l (n + d) = some s → ∃ s0, runF l n = some s0
  | n, 0, h => ⟨s, h⟩
  | n, d + 1, h => by
    rw [← Nat.add_assoc] at h
    unfold runF at h
    cases hr : runF l (n + d) with
    | none => rw [hr] at h; cases h
    | some s1 => exact runF_at n d hr
theorem MapF.congr {w : World} {r : Nat} {es es' : Es} (h : MapF w r es') (hl : es'.length = es.length) (hg : ∀ k, getE es' k = getE es k) : MapF w r es := by
  obtain ⟨D, h1, h2, h3, h4⟩ := h
  exact ⟨D, by rw [← hl]; exact h1, h2, by rw [← hl]; exact h3, fun k hk => by rw [← hg k]; exact h4 k hk⟩
end Go.Proofs.YtmnebeikafigjaaGreatDoor
/- The reference's Blocks: what it has while it goes on. -/
set_option linter.unusedVariables false
set_option linter.unusedSimpArgs false
namespace Go.Proofs.YtmnebeikafigjaaGreatDoor
open Go.RowKit Go.Sep Go.St
/-- A row of places that are open, and a map, both behind W's end, apart from one another. -/
structure Bk (W w : World) (mr : Nat) (sv : Value) (st : List Int) (es : Es) : Prop where
  bel : Below W.heap.size W w
  row : Row w 3 1 sv (ints .i64 st)
  map : MapF w mr es
  hm : W.heap.size ≤ mr
  hr : ∀ k, rowBlock sv = some k → W.heap.size ≤ k ∧ k ≠ mr
variable {W w : World} {mr : Nat} {sv : Value} {st : List Int} {es : Es}
theorem Bk.still {w1 : World} (h : Bk W w mr sv st es) (q : Below w.heap.size w w1) : Bk W w1 mr sv st es :=
  ⟨below_then h.bel q, h.row.move fun k hk => q.block k (h.row.lt hk), h.map.move (q.block mr h.map.lt), h.hm, h.hr⟩
theorem Bk.drewN (h : Bk W w mr sv st es) (n : Nat) : Bk W (w.drewN n) mr sv st es := h.still ⟨rfl, rfl, rfl, Nat.le_refl _, fun _ _ => rfl⟩
theorem Bk.drew (h : Bk W w mr sv st es) : Bk W w.drew mr sv st es := h.still ⟨rfl, rfl, rfl, Nat.le_refl _, fun _ _ => rfl⟩
theorem Bk.grow {w1 : World} {sv1 : Value} {st1 : List Int} (h : Bk W w mr sv st es) (hr : Row w1 3 1 sv1 (ints .i64 st1)) (hg : w.grownBy w1 (rowBlock sv)) (ha : rowBlock sv1 = rowBlock sv ∨ ∃ k, rowBlock sv1 = some k ∧ w.heap.size ≤ k) :
    Bk W w1 mr sv1 st1 es := by
  have hml := h.map.lt
  refine ⟨h.bel.grown hg h.bel.size fun k hk => (h.hr k hk).1, hr, h.map.move (hg.block mr hml (fun e => (h.hr mr e.symm).2 rfl)), h.hm, fun k hk => ?_⟩
  rcases ha with ha | ⟨q, hq, hle⟩
  · exact h.hr k (ha ▸ hk)
  · rw [hq] at hk
    cases hk
    exact ⟨Nat.le_trans h.bel.size hle, by omega⟩
theorem Bk.turn {w1 : World} {es1 : Es} (h : Bk W w mr sv st es) (hf : MapF w1 mr es1) (ht : w.mapTurned w1 mr) : Bk W w1 mr sv st es1 := by
  have hg := ht.grown
  exact ⟨h.bel.grown hg h.bel.size fun k hk => by cases hk; exact h.hm, h.row.move fun k hk => hg.block k (h.row.lt hk) (fun e => (h.hr k hk).2 (Option.some.inj e)), hf, h.hm, h.hr⟩
theorem Bk.cut {B : Option Addr} {n c m : Nat} (h : Bk W w mr (.slice B n c) st es) (hm : m ≤ n) (hl : n = st.length) : Bk W w mr (.slice B m c) (st.take m) es := by
  have := Row.cutTo h.row hm
  refine ⟨h.bel, ?_, h.map, h.hm, fun k hk => h.hr k (by rw [rowBlock_len _ _ m]; exact hk)⟩
  rwa [show (ints .i64 st).take m = ints .i64 (st.take m) by simp [ints, List.map_take]] at this
/-- A store into the map. -/
theorem Bk.store (h : Bk W w mr sv st es) (k : Int) (hk : I64 k) (v : Int × Int) (hn : es.length < 1000000) :
    ∃ w', (Instr.mapUpdate 147 (.map (some mr)) (.int .i64 k) (.agg #[.int .i64 v.1, .int .i64 v.2])).run Tryz.prog w = .ok () w' ∧ Bk W w' mr sv st (setE es k v) := by
  obtain ⟨w2, hr, hf, ht⟩ := h.map.store k hk v hn
  exact ⟨w2, hr, h.turn hf ht⟩
theorem bk_start (W : World) : Bk W (W.alloc (.map #[] 0)) W.heap.size (.slice none 0 0) [] [] :=
  ⟨(Below.refl _ _).alloc (Nat.le_refl _) _, row_nil _ _ _ _, MapF.made W, Nat.le_refl _, fun k hk => absurd (show none = some k from hk) (fun h => nomatch h)⟩
theorem stepF_inv (l : List Ins) (at_ : Nat) (s s' : List Int × Es) (h : stepF l at_ s = some s') (hk : ∀ k ∈ s.1, 0 ≤ k ∧ k < (at_ : Int)) (hl : s.1.length ≤ at_) (he : s.2.length ≤ at_) :
    (∀ k ∈ s'.1, 0 ≤ k ∧ k < ((at_ + 1 : Nat) : Int)) ∧ s'.1.length ≤ at_ + 1 ∧ s'.2.length ≤ at_ + 1 := by
  have hs : ∀ k v, (setE s.2 k v).length ≤ at_ + 1 := fun k v => Nat.le_trans (set_le k v s.2) (by omega)
  have w : ∀ k ∈ s.1, 0 ≤ k ∧ k < ((at_ + 1 : Nat) : Int) := fun k h => ⟨(hk k h).1, by have := (hk k h).2; omega⟩
  unfold stepF at h
  simp only at h
  split at h
  · cases h
    refine ⟨fun k hkm => ?_, by simp; omega, hs _ _⟩
    rcases List.mem_append.1 hkm with h | h
    · exact w k h
    · rw [List.mem_singleton] at h
      omega
  split at h
  · split at h
    · split at h
      · cases h; exact ⟨w, by simp; omega, hs _ _⟩
      · cases h
    · cases h
  split at h
  · split at h
    · cases h
      exact ⟨fun k h => w k ((List.dropLast_sublist s.1).subset h), by simp; omega, hs _ _⟩
    · cases h
  · cases h; exact ⟨w, by omega, by omega⟩
theorem runF_inv (l : List Ins) : ∀ (n : Nat) (s : List Int × Es), runF l n = some s → (∀ k ∈ s.1, 0 ≤ k ∧ k < (n : Int)) ∧ s.1.length ≤ n ∧ s.2.length ≤ n
  | 0, s, h => by
    cases h
    exact ⟨fun k h => by simp at h, by simp, by simp⟩
  | n + 1, s, h => by
    unfold runF at h
    cases hr : runF l n with
    | none => rw [hr] at h; cases h
    | some s0 =>
      rw [hr] at h
      obtain ⟨a, b, c⟩ := runF_inv l n s0 hr
      exact stepF_inv l n s0 s h a b c
end Go.Proofs.YtmnebeikafigjaaGreatDoor
/- The reference's Blocks, walked. -/
set_option linter.unusedVariables false
set_option linter.unusedSimpArgs false
namespace Go.Proofs.YtmnebeikafigjaaGreatDoor
open Go.RowKit Go.Sep Go.St
theorem linvF {W : World} {lv : Value} {l : List Ins} {n : Nat} {s : List Int × Es} (hrd : RdL W (fun b => b < W.heap.size) 6 (InsR W (fun b => b < W.heap.size)) lv l) (hl : l.length ≤ 100000) (hn : n ≤ l.length) (hs : runF l n = some s) : LInv W lv l s.1 s.2 := by
  obtain ⟨a, b, c⟩ := runF_inv l n s hs
  exact ⟨hrd, fun k hk => ⟨(a k hk).1, by have := (a k hk).2; omega⟩, by omega, by omega, hl⟩
theorem field1 (w : World) (a c : Int) : (Instr.field 205 (.agg #[.int .i64 a, .int .i64 c]) 1).run Tryz.prog w = .ok (.int .i64 c) w := by
  simp [Instr.field, asAgg, go_sem]
def RBl (W : World) (es : Es) (e : Ending) (w' : World) : Prop := ∃ mr, e = .returned (.tuple #[.map (some mr), .bool true]) ∧ Below W.heap.size W w' ∧ W.heap.size ≤ mr ∧ MapF w' mr es
set_option maxRecDepth 100000 in
set_option maxHeartbeats 4000000 in
theorem rblocks_c (l : List Ins) (es : Es) (W : World) (lv : Value) (hrd : RdL W (fun b => b < W.heap.size) 6 (InsR W (fun b => b < W.heap.size)) lv l) (hl : l.length ≤ 100000) (ho : WalkOk l es) :
    Calls Tryz.prog 69 #[lv] W (RBl W es) := by
  obtain ⟨A, c, rfl, _, _, _, _⟩ := id hrd
  have HW := Lib.hid (bk_start W)
  obtain ⟨esl, hf, hfl, hfg⟩ := ho.lastF
  have HR := Lib.hid (And.intro hrd (And.intro hl ho))
  have HF := Lib.hid (And.intro hf (And.intro hfl hfg))
  have mk := fun w => run_makeMap (P := Tryz.prog) 147 w
  clear hrd hl ho hf hfl hfg
  rename_i x1 x2 x3 x4
  clear x1 x2 x3 x4
  go_enter Tryz.func69, Tryz.ntmps69
  go_wp2_with fail
  generalize hmr : W.heap.size = mr at HW ⊢
  have HMR := Lib.hid hmr
  clear hmr
  go_loopw [5, 6] (fun sv i wr => ∃ n : Nat, n < l.length ∧ i = .int .i64 n ∧ ∃ s, runF l n = some s ∧ Bk W wr mr sv s.1 s.2) (fun _ i _ => l.length - (intOf i).toNat)
  case atStart => exact ⟨0, HR.out.2.2.ne, rfl, ([], []), rfl, HW.out⟩
  case round =>
    obtain ⟨n, hn, rfl, s, hrs, h⟩ := hrel
    have hI := linvF HR.out.1 HR.out.2.1 (Nat.le_of_lt hn) hrs
    have hll := HR.out.2.1
    obtain ⟨g, o, c', e, _, cop⟩ := ins_cell hI h.bel (n : Int) (by omega) (by omega)
    rw [Int.toNat_natCast] at cop
    cases e
    have i1 : decide ((n : Int) < (l.length : Int)) = true := decide_eq_true (by omega)
    have i2 : (n : Int) < (l.length : Int) := by omega
    obtain ⟨st, es0⟩ := s
    by_cases hlast : n + 1 = l.length
    · obtain rfl : n = l.length - 1 := by omega
      have hop := HR.out.2.2.last
      rw [hop] at cop
      rw [HF.out.1] at hrs
      cases hrs
      obtain ⟨A1, m1, k1, rfl, _, _, hxl, _⟩ := h.row.rd
      have hm1 : m1 = 0 := by rw [ints_len] at hxl; simp at hxl; omega
      subst hm1
      have q1 : IntKind.i64.wrap ((l.length : Int) - 1) = ((l.length - 1 : Nat) : Int) := by rw [IntWalk.i64_in _ (by omega)]; omega
      have FIN := Lib.hid (show RBl W es (.returned (.tuple #[.map (some mr), .bool true])) wr from ⟨mr, rfl, h.bel, h.hm, h.map.congr HF.out.2.1 HF.out.2.2⟩)
      clear h hI hlast hn hxl
      go_wp2
      go_ret2
      exact FIN.out
    · obtain ⟨s', hs'⟩ : ∃ s', runF l (n + 1) = some s' := by
        have := HF.out.1
        rw [show l.length - 1 = (n + 1) + (l.length - 1 - (n + 1)) by omega] at this
        exact runF_at _ _ this
      have hst : stepF l n (st, es0) = some s' := by
        have := hs'
        unfold runF at this
        rwa [hrs] at this
      have hinv := runF_inv l n _ hrs
      have HS := Lib.hid hs'
      have hi : IntKind.i64.wrap ((n : Int) + 1) = (n : Int) + 1 := IntWalk.i64_in _ (by omega)
      have hN : I64 (n : Int) := ⟨by omega, by omega⟩
      have HLT := Lib.hid (show n + 1 < l.length by omega)
      unfold stepF at hst
      simp only at hst
      clear hs' hrs hlast
      generalize hopA : opA l (n : Int) = op at cop hst
      clear hopA
      by_cases hA : op = 2 ∨ op = 3 ∨ op = 4
      · rw [if_pos hA] at hst
        cases hst
        obtain ⟨A1, m1, k1, rfl, _, _, hxl, _⟩ := h.row.rd
        have H1 := Lib.hid (h.still ((Below.refl wr.heap.size wr).alloc (Nat.le_refl _) (.cells #[.int .i64 (n : Int)] 3)))
        have RD := Lib.hid (rd_cell1 wr (.int .i64 (n : Int)) 3)
        have HN := Lib.hid (show ((ints .i64 st).length + 1) * 8 ≤ 140737488355328 by rw [ints_len]; have := hinv.2.1; simp only at this; omega)
        have HO := Lib.hid (show ∀ u ∈ [Value.int .i64 (n : Int)], u.oneCell' = true by simp [Value.oneCell'])
        have HST := Lib.hid (show ∀ w' sv, Bk W w' mr sv (st ++ [(n : Int)]) es0 → ∃ w2, (Instr.mapUpdate 147 (.map (some mr)) (.int .i64 (n : Int)) (.agg #[.int .i64 (-1), .int .i64 (-1)])).run Tryz.prog w' = .ok () w2 ∧ Bk W w2 mr sv (st ++ [(n : Int)]) (setE es0 n (-1, -1)) from fun w' sv q => q.store (n : Int) hN (-1, -1) (by have := hinv.2.2; simp only at this; omega))
        have d2 : decide ((2 : Int) ≤ op) = true := decide_eq_true (by omega)
        have d4 : decide (op ≤ 4) = true := decide_eq_true (by omega)
        clear h hI hA hinv hn hN hxl
        rename_i z1 z2 z3
        clear z1 z2 z3
        go_wp2_with (at_builtin; refine wpList_append_row (by rfl) _ _ _ (by rfl) 3 1 (.int .i64 0) 8 Tryz.underlying203 infoInt rfl (by omega) (by omega) (.slice A1 m1 k1) (ints .i64 st) (by rfl) (some ⟨wr.heap.size, 0, none⟩) 1 1 [.int .i64 (n : Int)] (by rfl) H1.out.row RD.out HO.out HN.out ?_; intro B1 m2 c3 w1 hr1 hg1 ha1; have hr2 := hr1.out; rw [show ints .i64 st ++ [.int .i64 (n : Int)] = ints .i64 (st ++ [(n : Int)]) by simp [ints]] at hr2; have G := H1.out.grow hr2 hg1.out ha1.out; obtain ⟨w2, hrun, h2⟩ := HST.out _ _ G; have H2 := Lib.hid h2; clear G hr2 hr1 hg1 ha1 h2)
        go_roundw
        case rel => exact ⟨n + 1, HLT.out, by go_num, _, HS.out, H2.out⟩
        case measure => (simp [intOf]; try omega)
      · rw [if_neg hA] at hst
        by_cases h5 : op = 5
        · subst h5
          rw [if_pos rfl] at hst
          split at hst
          · rename_i k hk
            split at hst
            · rename_i hc
              cases hst
              obtain ⟨st0, rfl⟩ := List.getLast?_eq_some_iff.1 hk
              have hkt := hI.top k (by simp)
              have hlen : (st0 ++ [k]).length = st0.length + 1 := by simp
              have hK : I64 k := ⟨by omega, by omega⟩
              obtain ⟨A1, m1, k1, rfl, hm1c, _, hxl, _⟩ := h.row.rd
              obtain rfl : m1 = st0.length + 1 := by rw [ints_len, hlen] at hxl; omega
              obtain ⟨gs, rfl, ck⟩ := Row.cellAt h.row st0.length (.int .i64 k) (by simp [ints])
              obtain ⟨g9, o9, c9, e9, _, cop4⟩ := ins_cell hI h.bel k hkt.1 hkt.2
              rw [hc.1] at cop4
              cases e9
              have lk := h.map.look k hK
              obtain ⟨el, hel⟩ : ∃ el, ((getE es0 k).getD (0, 0)).1 = el := ⟨_, rfl⟩
              obtain ⟨en, hen⟩ : ∃ en, ((getE es0 k).getD (0, 0)).2 = en := ⟨_, rfl⟩
              rw [hel, hen] at lk
              rw [hel] at hc
              rw [hen] at HS
              have d9 : decide ((0 : Int) ≤ el) = false := decide_eq_false (by omega)
              have q0 : ((st0.length + 1 : Nat) : Int) - 1 = (st0.length : Int) := by omega
              have q : IntKind.i64.wrap (((st0.length + 1 : Nat) : Int) - 1) = (st0.length : Int) := by rw [q0]; exact IntWalk.i64_in _ (by have := hinv.2.1; simp at this; omega)
              have q2 : IntKind.i64.wrap ((st0.length : Int)) = (st0.length : Int) := IntWalk.i64_in _ (by have := hinv.2.1; simp at this; omega)
              have e0 : (((st0.length + 1 : Nat) : Int) == 0) = false := beq_eq_false_iff_ne.2 (by omega)
              have e1 : ((st0.length + 1 : Nat) == 0) = false := beq_eq_false_iff_ne.2 (by omega)
              have j1 : (st0.length : Int) < ((st0.length + 1 : Nat) : Int) := by omega
              obtain ⟨kn, rfl⟩ : ∃ kn : Nat, k = kn := ⟨k.toNat, by omega⟩
              rw [Int.toNat_natCast] at cop4
              have j2 : (kn : Int) < (l.length : Int) := hkt.2
              have H := Lib.hid h
              have HX := Lib.hid (And.intro hK (show List.length (α := Int × (Int × Int)) es0 < 1000000 by have := hinv.2.2; simp only at this; omega))
              have lg : g < wr.heap.size := World.block_lt_of_cell? _ _ cop4
              clear h hI hA hinv hn hN hxl hc hkt hlen hK hel hen hk hm1c
              go_upto_region 15 with (fail)
              refine all_worldC (fun W' => Below wr.heap.size wr W' ∧ W'.cell? ⟨wr.heap.size, 0, none⟩ = some (.int .i64 el) ∧ W'.cell? ⟨wr.heap.size, 1, none⟩ = some (.int .i64 en) ∧ ∀ j, W'.frozen? ⟨wr.heap.size, j, none⟩ = false) ⟨(Below.refl _ _).alloc (Nat.le_refl _) _, by simp, by simp, by simp⟩ ?_
              rintro w2 ⟨hb2, b0, b1, bz⟩
              generalize hbB : wr.heap.size = bB at b0 b1 bz ⊢
              replace cop4 := (hb2.cell lg).trans cop4
              have HB := Lib.hid hb2
              have z0 := bz 0
              have HH := Lib.hid (show Bk W (w2.setCell ⟨bB, 0, none⟩ (.int .i64 (n : Int))) mr _ _ _ from H.out.still (hb2.setCell (by show wr.heap.size ≤ bB; omega) _))
              obtain ⟨w4, hrun, h4⟩ := HH.out.store (kn : Int) HX.out.1 ((n : Int), en) HX.out.2
              have b1' : (w2.setCell ⟨bB, 0, none⟩ (.int .i64 (n : Int))).cell? ⟨bB, 1, none⟩ = some (.int .i64 en) := (World.cell?_setCell_other _ _ _ _ (by simp)).trans b1
              have b0' : (w2.setCell ⟨bB, 0, none⟩ (.int .i64 (n : Int))).cell? ⟨bB, 0, none⟩ = some (.int .i64 (n : Int)) := World.cell?_setCell_same _ _ _ b0
              have H4 := Lib.hid h4
              clear hb2 h4 bz ck cop lk lg hbB
              go_wp2
              go_roundw
              case rel => exact ⟨n + 1, HLT.out, by go_num, _, HS.out, H4.out⟩
              case measure => (simp [intOf]; try omega)
            · cases hst
          · cases hst
        · rw [if_neg h5] at hst
          by_cases h11 : op = 11
          · subst h11
            rw [if_pos rfl] at hst
            split at hst
            · rename_i k hk
              cases hst
              obtain ⟨st0, rfl⟩ := List.getLast?_eq_some_iff.1 hk
              have hkt := hI.top k (by simp)
              have hlen : (st0 ++ [k]).length = st0.length + 1 := by simp
              have hK : I64 k := ⟨by omega, by omega⟩
              obtain ⟨A1, m1, k1, rfl, hm1c, _, hxl, _⟩ := h.row.rd
              obtain rfl : m1 = st0.length + 1 := by rw [ints_len, hlen] at hxl; omega
              obtain ⟨gs, rfl, ck⟩ := Row.cellAt h.row st0.length (.int .i64 k) (by simp [ints])
              have lk := h.map.look k hK
              have HDL := Lib.hid (show (st0 ++ [k]).dropLast = st0 by simp)
              obtain ⟨el, hel⟩ : ∃ el, ((getE es0 k).getD (0, 0)).1 = el := ⟨_, rfl⟩
              obtain ⟨en, hen⟩ : ∃ en, ((getE es0 k).getD (0, 0)).2 = en := ⟨_, rfl⟩
              rw [hel, hen] at lk
              rw [hel] at HS
              have q0 : ((st0.length + 1 : Nat) : Int) - 1 = (st0.length : Int) := by omega
              have q : IntKind.i64.wrap (((st0.length + 1 : Nat) : Int) - 1) = (st0.length : Int) := by rw [q0]; exact IntWalk.i64_in _ (by have := hinv.2.1; simp at this; omega)
              have q2 : IntKind.i64.wrap ((st0.length : Int)) = (st0.length : Int) := IntWalk.i64_in _ (by have := hinv.2.1; simp at this; omega)
              have e0 : (((st0.length + 1 : Nat) : Int) == 0) = false := beq_eq_false_iff_ne.2 (by omega)
              have e1 : ((st0.length + 1 : Nat) == 0) = false := beq_eq_false_iff_ne.2 (by omega)
              have j1 : (st0.length : Int) < ((st0.length + 1 : Nat) : Int) := by omega
              have j3 : (0 : Int) ≤ st0.length := by omega
              have j4 : (st0.length : Int) ≤ (k1 : Int) := by omega
              have j5 : st0.length ≤ k1 := by omega
              have H := Lib.hid h
              have HX := Lib.hid (And.intro hK (show List.length (α := Int × (Int × Int)) es0 < 1000000 by have := hinv.2.2; simp only at this; omega))
              clear h hI hA hinv hn hN hxl hkt hlen hK hel hen hk hm1c h5
              go_upto_region 26 with (fail)
              refine all_worldC (fun W' => Below wr.heap.size wr W' ∧ W'.cell? ⟨wr.heap.size, 0, none⟩ = some (.int .i64 el) ∧ W'.cell? ⟨wr.heap.size, 1, none⟩ = some (.int .i64 en) ∧ ∀ j, W'.frozen? ⟨wr.heap.size, j, none⟩ = false) ⟨(Below.refl _ _).alloc (Nat.le_refl _) _, by simp, by simp, by simp⟩ ?_
              rintro w2 ⟨hb2, b0, b1, bz⟩
              generalize hbB : wr.heap.size = bB at b0 b1 bz ⊢
              have z1 := bz 1
              have HH := Lib.hid (show Bk W (w2.setCell ⟨bB, 1, none⟩ (.int .i64 (n : Int))) mr _ _ _ from H.out.still (hb2.setCell (by show wr.heap.size ≤ bB; omega) _))
              obtain ⟨w4, hrun, h4⟩ := HH.out.store k HX.out.1 (el, (n : Int)) HX.out.2
              have b0' : (w2.setCell ⟨bB, 1, none⟩ (.int .i64 (n : Int))).cell? ⟨bB, 0, none⟩ = some (.int .i64 el) := (World.cell?_setCell_other _ _ _ _ (by simp)).trans b0
              have b1' : (w2.setCell ⟨bB, 1, none⟩ (.int .i64 (n : Int))).cell? ⟨bB, 1, none⟩ = some (.int .i64 (n : Int)) := World.cell?_setCell_same _ _ _ b1
              have H4 := Lib.hid (h4.cut (m := st0.length) (by omega) (by simp))
              clear hb2 h4 bz ck cop lk hbB
              go_wp2
              go_roundw
              case rel => exact ⟨n + 1, HLT.out, by go_num, _, HS.out, by have := H4.out; rw [HDL.out]; simpa using this⟩
              case measure => (simp [intOf]; try omega)
            · cases hst
          · rw [if_neg h11] at hst
            cases hst
            have n5 : (op == 5) = false := beq_eq_false_iff_ne.2 h5
            have n11 : (op == 11) = false := beq_eq_false_iff_ne.2 h11
            have H1 := Lib.hid h
            by_cases h2 : (2 : Int) ≤ op
            · have d2 : decide ((2 : Int) ≤ op) = true := decide_eq_true h2
              have d4 : decide (op ≤ 4) = false := decide_eq_false (by omega)
              clear h hI hA hinv hn hN h5 h11 h2
              go_wp2
              go_roundw
              case rel => exact ⟨n + 1, HLT.out, by go_num, _, HS.out, H1.out⟩
              case measure => (simp [intOf]; try omega)
            · have d2 : decide ((2 : Int) ≤ op) = false := decide_eq_false h2
              clear h hI hA hinv hn hN h5 h11 h2
              go_wp2
              go_roundw
              case rel => exact ⟨n + 1, HLT.out, by go_num, _, HS.out, H1.out⟩
              case measure => (simp [intOf]; try omega)
end Go.Proofs.YtmnebeikafigjaaGreatDoor
/- The reference's Worth; an instance that is being made: its ends. -/
set_option linter.unusedVariables false
set_option linter.unusedSimpArgs false
namespace Go.Proofs.YtmnebeikafigjaaGreatDoor
open Go.RowKit Go.Sep Go.St
theorem cell_away {w : World} {b i b' j : Nat} {v x : Value} (h : w.cell? ⟨b', j, none⟩ = some x) (hne : b ≠ b') : (w.setCell ⟨b, i, none⟩ v).cell? ⟨b', j, none⟩ = some x := by
  rw [World.cell?_setCell_other]
  · exact h
  · intro e
    injection e with e1 e2
    exact hne e1
theorem seg_world (w : World) (o1 o2 : Obj) (b : Nat) (x y : Value) (hb : b < w.heap.size) : (((w.drew.alloc o1).alloc o2).setCell ⟨b, 17, none⟩ x).setCell ⟨b, 18, none⟩ y = ((((w.setCell ⟨b, 17, none⟩ x).setCell ⟨b, 18, none⟩ y).alloc o1).alloc o2).drew := by
  have h0 : b < w.drew.heap.size := hb
  rw [World.setCell_alloc_past _ _ _ _ (show b < (w.drew.alloc o1).heap.size by simp; omega), World.setCell_alloc_past _ _ _ _ h0, World.setCell_alloc_past _ _ _ _ (show b < ((w.drew.setCell ⟨b, 17, none⟩ x).alloc o1).heap.size by simp [World.setCell]; omega), World.setCell_alloc_past _ _ _ _ (show b < (w.drew.setCell ⟨b, 17, none⟩ x).heap.size by simp [World.setCell]; omega)]
  rfl
set_option maxHeartbeats 2000000 in
theorem worth_c (w : World) (S : Nat → Prop) (lv : Value) (l : List Ins) (h : RdL w S 6 (InsR w S) lv l) (hw : ∀ x ∈ l, Ins.wf x) :
    Calls Tryz.prog 35 #[lv] w fun e w' => e = .returned (.int .u64 (valueC l)) ∧ w' = w := by
  obtain ⟨A, c, rfl, h1, h2, h3, hA⟩ := id h
  cases l with
  | nil =>
    clear h h1 h2 h3 hA hw
    go_enter Tryz.func35, Tryz.ntmps35
    go_wp2
    go_ret
    exact ⟨rfl, rfl⟩
  | cons x r =>
    obtain ⟨g, o, Al, cl, rfl, _, _, x0, x1, x2, x3, x4, x5, _⟩ := ins_six h 0 x rfl
    rw [Nat.zero_mul, Nat.add_zero] at x0 x1 x2 x3 x4 x5
    have d0 : (((x :: r).length : Int) == 0) = false := beq_eq_false_iff_ne.2 (by simp; omega)
    have d1 : ((x :: r).length == 0) = false := beq_eq_false_iff_ne.2 (by simp)
    have d2 : (0 : Int) < ((x :: r).length : Int) := by simp
    have d3 : 0 < (x :: r).length := by simp
    have hwx := hw x (by simp)
    have q1 : IntKind.u64.wrap x.a = x.a := IntWalk.u64_in _ (by have := hwx.a; omega)
    have q2 : IntKind.u64.wrap (x.a + 1) = x.a + 1 := IntWalk.u64_in _ (by have := hwx.a; omega)
    unfold valueC
    simp only
    clear h h1 h2 h3 hA hw hwx
    generalize (x :: r).length = n at *
    by_cases e65 : x.op = 65
    · rw [if_pos (.inl e65)]
      have t1 : (x.op == 65) = true := by rw [e65]; rfl
      clear e65
      go_enter Tryz.func35, Tryz.ntmps35
      go_wp2
      go_ret
      exact ⟨rfl, rfl⟩
    · have t1 : (x.op == 65) = false := beq_eq_false_iff_ne.2 e65
      by_cases e66 : x.op = 66
      · rw [if_pos (.inr e66)]
        have t2 : (x.op == 66) = true := by rw [e66]; rfl
        clear e65 e66
        go_enter Tryz.func35, Tryz.ntmps35
        go_wp2
        go_ret
        exact ⟨rfl, rfl⟩
      · have t2 : (x.op == 66) = false := beq_eq_false_iff_ne.2 e66
        rw [if_neg (by rintro (h | h); exact e65 h; exact e66 h)]
        by_cases e210 : x.op = 210
        · rw [if_pos e210]
          have t3 : (x.op == 210) = true := by rw [e210]; rfl
          clear e65 e66 e210
          go_enter Tryz.func35, Tryz.ntmps35
          go_wp2
          go_ret
          exact ⟨rfl, rfl⟩
        · rw [if_neg e210]
          have t3 : (x.op == 210) = false := beq_eq_false_iff_ne.2 e210
          clear e65 e66 e210
          go_enter Tryz.func35, Tryz.ntmps35
          go_wp2
          go_ret
          exact ⟨rfl, rfl⟩
variable {w : World} {S : Nat → Prop} {L : Key → Option Ck} {u iB : Nat} {M : Mo} {mc : List Value} {bv mv tv gv ev dv : Value} {er : List Value} {bl : List Es} {I : In}
/-- The instance as it begins. -/
theorem rmk_start (hs : Sep w S L) (hm : ModR w S M mc) (hw : Wf M) (k0 : L .mach = none) (k1 : L (.cfg u) = none) (ty : TypeId) :
    ∃ L', Mkr (w.alloc (.cells (mc ++ [Value.slice none 0 0, Value.slice none 0 0, Value.slice none 0 0, Value.slice none 0 0, Value.slice none 0 0, Value.slice none 0 0]).toArray ty)) S L' u w.heap.size M mc (.slice none 0 0) (.slice none 0 0) (.slice none 0 0) (.slice none 0 0) (.slice none 0 0) (.slice none 0 0) [] [] { blocks := [], mem := [], tabs := [], glo := [], els := [], das := [] } ∧
      Ro S w (w.alloc (.cells (mc ++ [Value.slice none 0 0, Value.slice none 0 0, Value.slice none 0 0, Value.slice none 0 0, Value.slice none 0 0, Value.slice none 0 0]).toArray ty)) ∧ ∀ q, q.own ≠ some u → (q ≠ .tmp 3) → L' q = L q := by
  have s3 := ((((((Go.Sep.Sep.del hs (.ins u)).nilRow (.tmp 3) 147 1 none).nilRow (.mem u) 5 1 none).nilRow (.tbs u) 57 1 none).nilRow (.glo u) 26 1 none).nilRow (.els u) 4 1 none).nilRow (.das u) 4 1 none
  have s4 := s3.new (.ins u) (mc ++ [Value.slice none 0 0, Value.slice none 0 0, Value.slice none 0 0, Value.slice none 0 0, Value.slice none 0 0, Value.slice none 0 0]).toArray ty (by simp [upd, del_same])
  have ro3 : Ro S w (w.alloc (.cells (mc ++ [Value.slice none 0 0, Value.slice none 0 0, Value.slice none 0 0, Value.slice none 0 0, Value.slice none 0 0, Value.slice none 0 0]).toArray ty)) := ((Still.refl w).alloc _).ro hs.lt
  have hmach : Go.Sep.del L (.ins u) .mach = none := (del_other _ (by simp)).trans k0
  have hcfg : Go.Sep.del L (.ins u) (.cfg u) = none := (del_other _ (by simp)).trans k1
  refine ⟨_, ⟨s4, ?_, ?_, by rw [upd_same], hm.mono ro3 (fun _ h => h), ⟨[], ?_, rfl, fun k r es a => by simp at a⟩, ?_, ⟨[], rfl, ?_, fun k l v a => by simp at a⟩, ?_, ?_, ?_, hw⟩, ro3, ?_⟩
  all_goals first
    | (simp [upd, ints, bools]; done)
    | (simp [upd]; first | exact hmach | exact hcfg)
    | skip
  intro q h1 h2
  have n : ∀ k : Key, k.own = some u → q ≠ k := fun k hk e => h1 (e ▸ hk)
  rw [upd_other _ _ (n _ rfl), upd_other _ _ (n _ rfl), upd_other _ _ (n _ rfl), upd_other _ _ (n _ rfl), upd_other _ _ (n _ rfl), upd_other _ _ (n _ rfl), upd_other _ _ h2, del_other _ (n _ rfl)]
/-- The marks of its segments. -/
theorem Mkr.segs (h : Mkr w S L u iB M mc bv mv tv gv ev dv er bl I) (a b : Nat) (ha : a ≤ 1000000) (hb : b ≤ 1000000) (ea : Bool) :
    ∀ (e1 d1 : Value) (w2 : World), (ea = true ∧ e1 = .slice (some ⟨w.heap.size, 0, none⟩) a a ∧ d1 = .slice (some ⟨w.heap.size + 1, 0, none⟩) b b ∧ w2 = (w.alloc (.cells (Array.replicate a (.bool false)) 4)).alloc (.cells (Array.replicate b (.bool false)) 4) ∨
      ea = false ∧ e1 = .slice (some ⟨w.heap.size + 1, 0, none⟩) a a ∧ d1 = .slice (some ⟨w.heap.size, 0, none⟩) b b ∧ w2 = (w.alloc (.cells (Array.replicate b (.bool false)) 4)).alloc (.cells (Array.replicate a (.bool false)) 4)) →
    ∃ L', Mkr ((w2.setCell ⟨iB, 17, none⟩ e1).setCell ⟨iB, 18, none⟩ d1) S L' u iB M mc bv mv tv gv e1 d1 er bl { I with els := List.replicate a false, das := List.replicate b false } ∧ Ro S w ((w2.setCell ⟨iB, 17, none⟩ e1).setCell ⟨iB, 18, none⟩ d1) ∧ ∀ q, q ≠ .els u → q ≠ .das u → q ≠ .ins u → L' q = L q := by
  intro e1 d1 w2 hor
  obtain ⟨L2, s2, ro2, x2, y2, o2⟩ : ∃ L2, Sep w2 S L2 ∧ Ro S w w2 ∧ L2 (.els u) = some (.rw 4 1 e1 (bools (List.replicate a false))) ∧ L2 (.das u) = some (.rw 4 1 d1 (bools (List.replicate b false))) ∧ ∀ q, q ≠ .els u → q ≠ .das u → L2 q = L q := by
    have he : a ≤ maxLen := by simp [maxLen]; omega
    have hd : b ≤ maxLen := by simp [maxLen]; omega
    rcases hor with ⟨_, rfl, rfl, rfl⟩ | ⟨_, rfl, rfl, rfl⟩
    · have p := h.sep.newRow (.els u) (Array.replicate a (.bool false)) 4 1 a (by simp) he
      have q := p.newRow (.das u) (Array.replicate b (.bool false)) 4 1 b (by simp) hd
      rw [Array.toList_replicate, Array.toList_replicate, ← bools_rep, ← bools_rep, show (w.alloc (.cells (Array.replicate a (.bool false)) 4)).heap.size = w.heap.size + 1 by simp] at q
      exact ⟨_, q, (((Still.refl w).alloc _).alloc _).ro h.sep.lt, by rw [upd_other _ _ (by simp), upd_same], by rw [upd_same], fun q x y => by rw [upd_other _ _ y, upd_other _ _ x]⟩
    · have p := h.sep.newRow (.das u) (Array.replicate b (.bool false)) 4 1 b (by simp) hd
      have q := p.newRow (.els u) (Array.replicate a (.bool false)) 4 1 a (by simp) he
      rw [Array.toList_replicate, Array.toList_replicate, ← bools_rep, ← bools_rep, show (w.alloc (.cells (Array.replicate b (.bool false)) 4)).heap.size = w.heap.size + 1 by simp] at q
      exact ⟨_, q, (((Still.refl w).alloc _).alloc _).ro h.sep.lt, by rw [upd_same], by rw [upd_other _ _ (by simp), upd_same], fun q x y => by rw [upd_other _ _ x, upd_other _ _ y]⟩
  have i2 : L2 (.ins u) = some (.cl iB 0 (mc ++ (bv :: mv :: tv :: gv :: ev :: dv :: er))) := (o2 _ (by simp) (by simp)).trans h.ins
  have s3 := s2.set0 i2 17 (by simp [h.mod.len]; omega) e1
  rw [set_tail h.mod.len _ 4] at s3
  have r3 := s2.ro_setCell i2 17 e1
  have i3 : upd L2 (.ins u) (.cl iB 0 (mc ++ (bv :: mv :: tv :: gv :: ev :: dv :: er).set 4 e1)) (.ins u) = some (.cl iB 0 (mc ++ (bv :: mv :: tv :: gv :: e1 :: dv :: er))) := upd_same _ _ _
  have s4 := s3.set0 i3 18 (by simp [h.mod.len]; omega) d1
  rw [set_tail h.mod.len _ 5] at s4
  have r4 := (ro2.trans' r3).trans' (s3.ro_setCell i3 18 d1)
  have o : ∀ q : Key, q ≠ .els u → q ≠ .das u → q ≠ .ins u → upd (upd L2 (.ins u) (.cl iB 0 (mc ++ (bv :: mv :: tv :: gv :: ev :: dv :: er).set 4 e1))) (.ins u) (.cl iB 0 (mc ++ (bv :: mv :: tv :: gv :: e1 :: dv :: er).set 5 d1)) q = L q := fun q a b c => by rw [upd_other _ _ c, upd_other _ _ c, o2 q a b]
  obtain ⟨raws, q1, q2, q3⟩ := h.bls
  obtain ⟨traws, t1, t2, t3⟩ := h.tabs
  refine ⟨_, ⟨s4, (o _ (by simp) (by simp) (by simp)).trans h.mach, (o _ (by simp) (by simp) (by simp)).trans h.cfg, upd_same _ _ _, h.mod.mono r4 (fun _ h => h), ⟨raws, (o _ (by simp) (by simp) (by simp)).trans q1, q2, fun k r es a c => ?_⟩, (o _ (by simp) (by simp) (by simp)).trans h.mem,
    ⟨traws, t1, (o _ (by simp) (by simp) (by simp)).trans t2, fun k l v a b => (o _ (by simp) (by simp) (by simp)).trans (t3 k l v a b)⟩, (o _ (by simp) (by simp) (by simp)).trans h.glo, by rw [upd_other _ _ (by simp), upd_other _ _ (by simp)]; exact x2, by rw [upd_other _ _ (by simp), upd_other _ _ (by simp)]; exact y2, h.wf⟩, r4, o⟩
  obtain ⟨bb, e, hbb, hmm⟩ := q3 k r es a c
  exact ⟨bb, e, hbb, hmm.move (r4.2 _ hbb)⟩
end Go.Proofs.YtmnebeikafigjaaGreatDoor
