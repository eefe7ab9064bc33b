/- Lemmas of the walk, part 2. -/
import Derived.Test.YtmnebeikafigjaaGreatDoorJ1
import Derived.Test.YtmnebeikafigjaaGreatDoorJ0
import Derived.LoopTactic
/- step's machine: skips. -/
set_option linter.unusedVariables false
namespace Go.Proofs.YtmnebeikafigjaaGreatDoor
open Go.RowKit Go.Sep Go.St
variable {w : World} {S : Nat → Prop} {L : Key → Option Ck} {u : Nat} {P : Ptrs} {M : Mo} {s : Ms}
/-- A label as it lies. -/
theorem lab_at {e n c : Nat} {A : Option Addr} {l : List Lb} (hr : Row w e 3 (.slice A n c) (labC l)) (j : Nat) (x : Lb) (hx : l[j]? = some x) : ∃ lb, A = some ⟨lb, 0, none⟩ ∧ w.cell? ⟨lb, j * 3, none⟩ = some (.int .i64 x.to) ∧ w.cell? ⟨lb, j * 3 + 1, none⟩ = some (.int .i64 x.ar) ∧ w.cell? ⟨lb, j * 3 + 2, none⟩ = some (.int .i64 x.ht) := by
  obtain ⟨A', n', c', e1, h1, hA, h2, h3, h4⟩ := id hr
  cases e1
  have hj := (List.getElem?_eq_some_iff.1 hx).1
  rw [labC_len] at h1
  have hc : 0 < c := by omega
  obtain ⟨g, cur, rfl, hg, hcs, ht⟩ := h4 hc
  have get : ∀ i v, i < 3 → ([Value.int .i64 x.to, .int .i64 x.ar, .int .i64 x.ht] : List Value)[i]? = some v → w.cell? ⟨g, j * 3 + i, none⟩ = some v := by
    intro i v hi hv
    refine (Row.cell hr hc (j * 3 + i) v ?_).1
    unfold labC
    rw [flat_get _ 3 (fun _ => rfl) l j i hi, hx]
    exact hv
  exact ⟨g, rfl, get 0 _ (by omega) rfl, get 1 _ (by omega) rfl, get 2 _ (by omega) rfl⟩
set_option maxRecDepth 100000 in
set_option maxHeartbeats 1000000 in
theorem skips_c (h : Md w S L u P M s) {k fB fc : Nat} {f : Fr} {sv vv lv bv : Value} {raws : List (Value × Value)} (hf : Frm w L u P s k f fB fc sv vv raws lv bv) (hk : s.c.frs.length = k + 1) (hk2 : k ≤ 1000000)
    (ok : FrOk f) (hb : s.c.st.length ≤ 1000000000) :
    Calls Tryz.prog 74 #[.pointer (some ⟨P.mB, 0, none⟩)] w fun e w' => e = .returned (.tuple #[]) ∧ To w S L u P M w' { s with c := skipC s.c f } := by
  obtain ⟨A, c, rfl, hmc, hlr⟩ := hf.lab_form h
  have HF := Lib.hid (frame_c h hf hk2)
  have SD : ∀ m, Still w (w.drewN m) := fun m => (Still.refl w).drewN m
  have f5 := hf.cell 5 _ rfl
  have z1 := hf.frozen (k * 6 + 1)
  have z5 := hf.frozen (k * 6 + 5)
  have f1 := hf.cell 1 _ rfl
  have hll := ok.ll
  by_cases h0 : f.lab.length < 2
  · have hs : skipC s.c f = endsC 17 := by
      unfold skipC
      split
      · rfl
      · rw [if_pos h0]
    rw [hs]
    generalize f.lab.length = m at f5 hmc hll h0
    have hi1 : IntKind.i64.wrap ((m : Int) - 1) = (m : Int) - 1 := IntWalk.i64_in _ (by omega)
    have d0 : decide ((m : Int) - 1 < 1) = true := decide_eq_true (by omega)
    have HE := Lib.hid (fun n => stuck_yes (h.still (SD n)))
    clear h hf hk hk2 ok hb hlr SD hmc hll hs h0
    go_enter Tryz.func74, Tryz.ntmps74
    go_wp2_with fail
    refine HF.out.mono ?_
    rintro e w1 ⟨rfl, n1, rfl⟩
    go_wp2_with fail
    refine (HE.out _).mono ?_
    rintro e w2 ⟨rfl, ht⟩
    have HT := Lib.hid ht
    clear ht
    go_wp2
    exact bodyPost_ret (v := .tuple #[]) (by simp [results, Tryz.results74, go_sem]) rfl ⟨rfl, HT.out⟩
  · obtain ⟨j, hj⟩ : ∃ j, f.lab.length = j + 1 := ⟨f.lab.length - 1, by omega⟩
    obtain ⟨x, hx⟩ : ∃ x, f.lab[j]? = some x := ⟨_, List.getElem?_eq_getElem (by omega)⟩
    have hs : skipC s.c f = setTop s.c { f with at_ := x.to + 1, lab := f.lab.take j } := by
      unfold skipC
      rw [hj, Nat.add_sub_cancel, hx]
      simp only
      rw [if_neg (by omega)]
    rw [hs]
    obtain ⟨lb, rfl, l0, _, _⟩ := lab_at hlr j x hx
    have hto := (ok.lab x (List.mem_of_getElem? hx)).1
    have hi1 : IntKind.i64.wrap (((j + 1 : Nat) : Int) - 1) = (j : Int) := by rw [IntWalk.i64_in _ (by omega)]; omega
    have hi2 : IntKind.i64.wrap (x.to + 1) = x.to + 1 := IntWalk.i64_in _ (by omega)
    have d0 : decide ((j : Int) < 1) = false := decide_eq_false (by omega)
    have e0 : (0 : Int) ≤ (j : Int) := by omega
    have e1 : (j : Int) < ((j + 1 : Nat) : Int) := by omega
    obtain ⟨i0, hi, _, hz1, _⟩ := info_parts infoLb
    have hcut := slice_to (P := Tryz.prog) (t := 111) Tryz.underlying111 hi (some ⟨lb, 0, none⟩) (j + 1) c j (by omega) (by omega)
    have key : ∀ n, To w S L u P M (((w.drewN n).setCell ⟨fB, k * 6 + 1, none⟩ (.int .i64 (x.to + 1))).setCell ⟨fB, k * 6 + 5, none⟩ (.slice (some ⟨lb, 0, none⟩) j c)) { s with c := setTop s.c { f with at_ := x.to + 1, lab := f.lab.take j } } := by
      intro n
      obtain ⟨S1, L1, raws1, h1, k1, ro1, hS1, hf1⟩ := frame_numF (h.still (SD n)) (hf.still (SD n)) hk (x.to + 1)
      have h2 := labs_cut h1 hf1 (by simp [setTop, hk]) j (by show j ≤ f.lab.length; omega) rfl
      have e : setTop (setTop s.c { f with at_ := x.to + 1 }) { f with at_ := x.to + 1, lab := f.lab.take j } = setTop s.c { f with at_ := x.to + 1, lab := f.lab.take j } := by simp [setTop]
      exact To.trans k1 (ro1.trans' (Ro.refl _ _)) hS1 (by rw [← e]; exact h2)
    have KEY := Lib.hid key
    rw [hj] at f5
    clear h hf hk hk2 ok hb hlr SD hmc hll hs h0 hx hto hi hz1 key hj
    generalize hN : (j + 1 : Nat) = N at f5 hi1 e1 hcut
    clear hN
    go_enter Tryz.func74, Tryz.ntmps74
    go_wp2_with fail
    refine HF.out.mono ?_
    rintro e w1 ⟨rfl, n1, rfl⟩
    go_wp2_with (go_at_call 39; (with_reducible refine (stuck_no _ _).mono ?_); rintro e w2 ⟨rfl, rfl⟩)

    go_end0
    exact ⟨rfl, KEY.out _⟩
end Go.Proofs.YtmnebeikafigjaaGreatDoor
/- append of noughts onto a row that is held. -/
set_option linter.unusedVariables false
namespace Go.Sep
open Go.RowKit
variable {P : Program}
theorem zeroCells_one (z : Value) (n : Nat) : Builtin.zeroCells #[z] n = Array.replicate n z := by
  apply Array.ext
  · simp [Builtin.zeroCells]
  · intro i h1 h2
    simp [Builtin.zeroCells, Nat.mod_one]
theorem Row.appendZ {w : World} {e : Nat} {v : Value} {xs : List Value} (h : Row w e 1 v xs) (t ti ty : TypeId) (ki : IntKind) (z : Value) (bytes : Nat) (ht : P.underlying t = some (.slice e)) (hti : P.underlying ti = some (.int ki))
    (hinfo : (P.info? e).map (fun i => (i.zero, i.size, i.bytes)) = some (some z, 1, bytes)) (hz1 : z.cells = #[z]) (ho : z.oneCell' = true) (hb : 0 < bytes)
    (n : Nat) (hbytes : (xs.length + n) * bytes ≤ 140737488355328) :
    ∃ v' w', (Builtin.append_ #[t, ti] ty #[v, .int .i64 (n : Int)]).run P w = .ok v' w' ∧ Row w' e 1 v' (xs ++ List.replicate n z) ∧ w.grownBy w' (rowBlock v) ∧
      (rowBlock v' = rowBlock v ∨ ∃ b, rowBlock v' = some b ∧ w.heap.size ≤ b) := by
  obtain ⟨i, hi, hz, hsize, hby⟩ : ∃ i, P.info? e = some i ∧ i.zero = some z ∧ i.size = 1 ∧ i.bytes = bytes := by
    cases hi : P.info? e with
    | none => rw [hi] at hinfo; cases hinfo
    | some i =>
      rw [hi] at hinfo
      injection hinfo with hinfo
      injection hinfo with e1 e2
      injection e2 with e2 e3
      exact ⟨i, rfl, e1, e2, e3⟩
  subst hby
  have hnn : xs.length + n ≤ 140737488355328 := Nat.le_trans (Nat.le_mul_of_pos_right _ hb) hbytes
  have hw : IntKind.i64.wrap (n : Int) = (n : Int) := IntWalk.i64_in _ (by omega)
  have hl0 : ¬ ((n : Int) < 0) := by omega
  have hby1 : n * i.bytes ≤ 140737488355328 := Nat.le_trans (Nat.mul_le_mul_right _ (Nat.le_add_left _ _)) hbytes
  have hl1 : ¬ (281474976710656 < (n : Int) * (i.bytes : Int)) := by
    have : ((n * i.bytes : Nat) : Int) = (n : Int) * (i.bytes : Int) := by simp
    omega
  obtain ⟨B, m, c, rfl, g1, hA, g2, g3, hr⟩ := h
  rw [Nat.mul_one] at g1
  have same : ∀ row, w.grownBy w row := fun row => ⟨rfl, rfl, rfl, Nat.le_refl _, fun _ _ _ => rfl⟩
  by_cases hn : n = 0
  · subst hn
    refine ⟨.slice B m c, w, ?_, by simp only [List.replicate_zero, List.append_nil]; exact ⟨B, m, c, rfl, by omega, hA, g2, g3, hr⟩, same _, .inl rfl⟩
    have hw0 : IntKind.i64.wrap 0 = 0 := by simpa using hw
    cases B <;> simp [Builtin.append_, run_underlying ht, run_underlying hti, sizeOf, typeInfo, hi, asInt, asIntOf, hw0, g2, storeCells]
  · by_cases hroom : m + n ≤ c
    · obtain ⟨g, cur, rfl, hg, hcs, htk⟩ := hr (by omega)
      rw [Nat.mul_one] at hcs htk
      have hst := run_storeCells_at P g m e (List.replicate n z) 0 cur w hg (by simp; omega) (by intro u hu; rw [List.eq_of_mem_replicate hu]; exact ho)
      simp only [Nat.add_zero] at hst
      refine ⟨.slice (some ⟨g, 0, none⟩) (m + n) c, w.setRow g (cur.toList.take m ++ List.replicate n z ++ cur.toList.drop (m + n)).toArray, ?_, ?_, ?_, .inl rfl⟩
      · simp [Builtin.append_, run_underlying ht, run_underlying hti, sizeOf, typeInfo, hi, asInt, asIntOf, hw, hl0, hl1, hroom, hn, zeroValue, hz, hz1, hsize, zeroCells_one, Addr.add_lit]
        rw [List.append_assoc] at hst
        simp only [List.length_replicate] at hst
        rw [hst]
        rfl
      · refine ⟨_, m + n, c, rfl, by simp [g1], (fun h => nomatch h), hroom, g3, fun _ => ⟨g, _, rfl, setRow_heap w g cur _ e _ hg, ?_, ?_⟩⟩
        · simp; omega
        · rw [Nat.mul_one]
          show List.take (m + n) (List.take m cur.toList ++ List.replicate n z ++ List.drop (m + n) cur.toList) = xs ++ List.replicate n z
          rw [htk, ← g1]
          have : (xs ++ List.replicate n z).length = xs.length + n := by simp
          rw [← this]
          exact List.take_left
      · refine ⟨rfl, rfl, rfl, by simp [World.setRow], fun k _ hk => setRow_other w g k _ (fun he => hk (by simp [rowBlock, he]; omega))⟩
    · have h63 : ¬ (9223372036854775807 < ((m : Int) + (n : Int))) := by omega
      have hfit := growslice_fits (need := m + n) (old := c) (bytes := i.bytes) (by omega) (by rw [← g1]; exact hbytes)
      have h48 : ¬ (281474976710656 < Builtin.nextslicecap (m + n) c * i.bytes) := by omega
      have hge := grownCap_ge w (m + n) c e
      have hcm := grownCap_le_maxLen w (m + n) c e (by simp only [maxLen]; omega)
      have hrun : (Builtin.append_ #[t, ti] ty #[.slice B m c, .int .i64 (n : Int)]).run P w = .ok (.slice (some ⟨w.heap.size, 0, none⟩) (m + n) (grownCap w (m + n) c e)) (w.drew.alloc (.cells (xs.toArray ++ Array.replicate n z ++ Array.replicate (grownCap w (m + n) c e - (m + n)) z) e)) := by
        have hf : (Builtin.firstCells i.size m (.slice B m c)).run P w.drew = .ok xs.toArray w.drew := by
          cases B with
          | none =>
            have : c = 0 := hA rfl
            obtain rfl : m = 0 := by omega
            obtain rfl : xs = [] := List.eq_nil_of_length_eq_zero g1
            exact run_firstCells_none (P := P) w.drew _ _ _ _
          | some b =>
            refine run_firstCells_some (P := P) w.drew i.size m b m c xs (by rw [hsize, Nat.mul_one]; exact g1) (fun j u hu => ?_)
            have hj := (List.getElem?_eq_some_iff.1 hu).1
            obtain ⟨g, cur, e1, hg, hcs, htk⟩ := hr (by omega)
            cases e1
            rw [Nat.mul_one] at htk
            rw [show (Addr.mk g 0 none).add j = ⟨g, j, none⟩ by unfold Addr.add; split <;> simp_all]
            rw [← htk, List.getElem?_take] at hu
            split at hu
            · rw [World.cell?_of_block (w := w) (w' := w.drew) (a := ⟨g, j, none⟩) rfl]; simp [World.cell?, hg]; simpa using hu
            · cases hu
        simp [Builtin.append_, run_underlying ht, run_underlying hti, sizeOf, typeInfo, hi, asInt, asIntOf, hw, hl0, hl1, hroom, hn, zeroValue, hz, hz1, hsize, h63, h48, Question.forced, newRow, grownCap, zeroCells_one]
        rw [hsize] at hf
        simp [hf]
      refine ⟨_, _, hrun, ⟨_, m + n, _, rfl, by simp [g1], (fun h => nomatch h), hge, hcm, fun _ => ⟨w.heap.size, _, rfl, heap_alloc_new w.drew _, ?_, ?_⟩⟩, ⟨rfl, rfl, rfl, by simp, fun k hk _ => heap_alloc_old w.drew _ hk⟩, ?_⟩
      · simp [g1]; omega
      · rw [Nat.mul_one]
        simp only [Array.toList_append, Array.toList_replicate]
        have : (xs ++ List.replicate n z).length = m + n := by simp [g1]
        rw [← this]
        exact List.take_left
      · right
        refine ⟨w.heap.size, ?_, Nat.le_refl _⟩
        simp [rowBlock]
        omega
end Go.Sep
/- step's machine: zeroes; opens, where it does not. -/
set_option linter.unusedVariables false
namespace Go.Proofs.YtmnebeikafigjaaGreatDoor
open Go.RowKit Go.Sep Go.St
variable {w : World} {S : Nat → Prop} {L : Key → Option Ck} {u : Nat} {P : Ptrs} {M : Mo} {s : Ms}
def Zeroed (w : World) (v : Value) (xs : List Value) (r : Ending) (w' : World) : Prop := ∃ B n c, r = .returned (.slice B n c) ∧ Row w' 26 1 (.slice B n c) xs ∧ w.grownBy w' (rowBlock v) ∧ (rowBlock (.slice B n c) = rowBlock v ∨ ∃ b, rowBlock (.slice B n c) = some b ∧ w.heap.size ≤ b)
theorem wpList_appendZ {P : Program} {w : World} {ops : Array Oper} {rest : List Oper} {o : Oper} {a : Act} {Q : Exit → Act → World → Prop} (hgd : o.guard = none) (s x : Operand) (t ti : TypeId)
    (ho : o.op = .call { callee := .builtin .append, args := #[s, x], argTypes := #[t, ti] }) (e : Nat) (ki : IntKind) (z : Value) (bytes : Nat) (ht : P.underlying t = some (.slice e)) (hti : P.underlying ti = some (.int ki))
    (hinfo : (P.info? e).map (fun i => (i.zero, i.size, i.bytes)) = some (some z, 1, bytes)) (hz1 : z.cells = #[z]) (hzo : z.oneCell' = true) (hb : 0 < bytes)
    (v : Value) (xs : List Value) (hs : a.eval s = v) (n : Nat) (hx : a.eval x = .int .i64 (n : Int)) (h : Row w e 1 v xs) (hbytes : (xs.length + n) * bytes ≤ 140737488355328)
    (hK : ∀ B m c w', Hid (Row w' e 1 (.slice B m c) (xs ++ List.replicate n z)) → Hid (w.grownBy w' (rowBlock v)) → Hid (rowBlock (.slice B m c) = rowBlock v ∨ ∃ b, rowBlock (.slice B m c) = some b ∧ w.heap.size ≤ b) → wpList P ops Q rest (a.put o.dst (.slice B m c)) w') :
    wpList P ops Q (o :: rest) a w := by
  refine wpList_plain hgd fun K hK' => ?_
  obtain ⟨v', w', hr, h2, h3, h4⟩ := h.appendZ (P := P) t ti o.type ki z bytes ht hti hinfo hz1 hzo hb n hbytes
  unfold Oper.wp execOp
  simp only [ho, resolve, invoke, builtin, Sem.run_bind, Sem.run_pure, Result.andThen_ok, List.map_toArray, List.map_cons, List.map_nil, hs, hx, hr]
  obtain ⟨B, m, cc, rfl, _⟩ := id h2
  exact hK' _ _ (hK B m cc w' (Lib.hid h2) (Lib.hid h3) (Lib.hid h4))
theorem zeroes_c (w : World) (A : Option Addr) (m c n : Nat) (l : List Int) (hr : Row w 26 1 (.slice A m c) (ints .u64 l)) (hb : l.length + n ≤ 1000000000) :
    Calls Tryz.prog 121 #[.slice A m c, .int .i64 (n : Int)] w (Zeroed w (.slice A m c) (ints .u64 (l ++ List.replicate n 0))) := by
  have e : ints .u64 (l ++ List.replicate n 0) = ints .u64 l ++ List.replicate n (.int .u64 0) := by simp [ints]
  rw [e]
  have hbytes : ((ints .u64 l).length + n) * 8 ≤ 140737488355328 := by rw [ints_len]; omega
  have HR := Lib.hid hr
  clear hr e hb
  go_enter Tryz.func121, Tryz.ntmps121
  go_wp2_with (at_builtin; refine wpList_appendZ (by rfl) _ _ _ _ (by rfl) 26 .i64 (.int .u64 0) 8 Tryz.underlying57 Tryz.underlying3 infoU64 rfl rfl (by omega) (.slice A m c) _ (by rfl) n (by rfl) HR.out hbytes ?_; intro B1 n1 c2 w1 hr1 hg1 ha1)
  go_ret
  exact ⟨B1, n1, c2, rfl, hr1.out, hg1.out, ha1.out⟩
theorem Md.c0 (h : Md w S L u P M s) : ∃ fA fc, w.cell? ⟨P.cB, P.co, none⟩ = some (.slice fA s.c.frs.length fc) := by
  obtain ⟨fv, sv, vv, hC, ⟨raws, hl, hR, hA⟩, hS, hV⟩ := h.cfg
  obtain ⟨A, n, c, rfl, h1, _⟩ := h.sep.holds _ _ hR
  have hflat : ((s.c.frs.zip raws).flatMap fun p => frC p.1 p.2.1 p.2.2) = (s.c.frs.zip raws).flatMap frG := rfl
  rw [hflat, flat_len frG 6 frG_len, List.length_zip, hl, Nat.min_self] at h1
  obtain rfl : n = s.c.frs.length := by omega
  exact ⟨A, c, h.sep.cellA hC⟩
theorem opens_lim (h : Md w S L u P M s) (f : Nat) (args : Value) (hn : 32 ≤ s.c.frs.length) :
    Calls Tryz.prog 71 #[.pointer (some ⟨P.mB, 0, none⟩), .int .u32 (f : Int), args] w fun e w' => e = .returned (.tuple #[]) ∧ To w S L u P M w' { s with c := endsC 8 } := by
  obtain ⟨fA, fc, c0⟩ := h.c0
  have m0 := h.sep.cell0 h.mach 0 _ rfl
  have HE := Lib.hid (ends_c h 8)
  have d0 : decide (32 ≤ s.c.frs.length) = true := decide_eq_true hn
  have d1 : decide ((32 : Int) ≤ (s.c.frs.length : Int)) = true := decide_eq_true (by omega)
  clear h hn
  go_enter Tryz.func71, Tryz.ntmps71
  go_wp2_with fail
  refine HE.out.mono ?_
  rintro e w1 ⟨rfl, ht⟩
  have HT := Lib.hid ht
  clear ht
  go_wp2
  exact bodyPost_ret (v := .tuple #[]) (by simp [results, Tryz.results71, go_sem]) rfl ⟨rfl, HT.out⟩
set_option maxRecDepth 100000 in
set_option maxHeartbeats 1000000 in
theorem opens_no (h : Md w S L u P M s) (f : Nat) (hf : f < 4294967296) (args : Value) (hn : s.c.frs.length < 32) (ht : functionM M s.i.blocks.length f = none) :
    Calls Tryz.prog 71 #[.pointer (some ⟨P.mB, 0, none⟩), .int .u32 (f : Int), args] w fun e w' => e = .returned (.tuple #[]) ∧ To w S L u P M w' { s with c := endsC 17 } := by
  obtain ⟨fA, fc, c0⟩ := h.c0
  have m0 := h.sep.cell0 h.mach 0 _ rfl
  have HF := Lib.hid (function_no h f hf ht)
  have HE := Lib.hid (fun (w' : World) (q : Still w w') => (stuck_yes (h.still q)))
  have HR := Lib.hid (fun (w' : World) (q : Still w w') => (q.ro h.sep.lt))
  have d0 : decide (32 ≤ s.c.frs.length) = false := decide_eq_false (by omega)
  have d1 : decide ((32 : Int) ≤ (s.c.frs.length : Int)) = false := decide_eq_false (by omega)
  clear h hn hf ht
  go_enter Tryz.func71, Tryz.ntmps71
  go_wp2_with fail
  refine HF.out.mono ?_
  rintro e w1 ⟨rfl, hst⟩
  have ST := Lib.hid hst
  clear hst
  go_wp2_with fail
  refine (HE.out _ (ST.out.alloc _)).mono ?_
  rintro e w2 ⟨rfl, ht⟩
  have HT := Lib.hid (To.trans (Keep.refl _ _) (HR.out _ (ST.out.alloc _)) (fun _ h => h) ht)
  clear ht
  go_wp2
  exact bodyPost_ret (v := .tuple #[]) (by simp [results, Tryz.results71, go_sem]) rfl ⟨rfl, HT.out⟩
set_option maxRecDepth 100000 in
set_option maxHeartbeats 1000000 in
theorem opens_arg (h : Md w S L u P M s) (f : Nat) (hf : f < 4294967296) (A : Option Addr) (m c : Nat) (hn : s.c.frs.length < 32) (t : Ft) (ht : functionM M s.i.blocks.length f = some t) (hm : m ≠ t.ps.length) :
    Calls Tryz.prog 71 #[.pointer (some ⟨P.mB, 0, none⟩), .int .u32 (f : Int), .slice A m c] w fun e w' => e = .returned (.tuple #[]) ∧ To w S L u P M w' { s with c := endsC 17 } := by
  obtain ⟨fA, fc, c0⟩ := h.c0
  have m0 := h.sep.cell0 h.mach 0 _ rfl
  have HF := Lib.hid (function_yes h f hf t ht)
  have HE := Lib.hid (fun (w' : World) (q : Still w w') => (stuck_yes (h.still q)))
  have HR := Lib.hid (fun (w' : World) (q : Still w w') => (q.ro h.sep.lt))
  have d0 : decide (32 ≤ s.c.frs.length) = false := decide_eq_false (by omega)
  have d1 : decide ((32 : Int) ≤ (s.c.frs.length : Int)) = false := decide_eq_false (by omega)
  have d2 : ((m : Int) != (t.ps.length : Int)) = true := by rw [bne_iff_ne]; omega
  have d3 : ((m : Int) == (t.ps.length : Int)) = false := beq_eq_false_iff_ne.2 (by omega)
  clear h hn hf ht hm
  go_enter Tryz.func71, Tryz.ntmps71
  go_wp2_with fail
  refine HF.out.mono ?_
  rintro e w1 ⟨pA, pc, rA, rc, rfl, hft, hst⟩
  have ST := Lib.hid hst
  have FT := Lib.hid hft
  clear hst hft
  go_wp2_with fail
  refine (HE.out _ (ST.out.alloc _)).mono ?_
  rintro e w2 ⟨rfl, ht⟩
  have HT := Lib.hid (To.trans (Keep.refl _ _) (HR.out _ (ST.out.alloc _)) (fun _ h => h) ht)
  clear ht
  go_wp2
  exact bodyPost_ret (v := .tuple #[]) (by simp [results, Tryz.results71, go_sem]) rfl ⟨rfl, HT.out⟩
end Go.Proofs.YtmnebeikafigjaaGreatDoor
/- step's machine: opens, where it does. -/
set_option linter.unusedVariables false
namespace Go.Proofs.YtmnebeikafigjaaGreatDoor
open Go.RowKit Go.Sep Go.St
variable {w : World} {S : Nat → Prop} {L : Key → Option Ck} {u : Nat} {P : Ptrs} {M : Mo} {s : Ms}
theorem and_low (x : Int) (h0 : 0 ≤ x) (h1 : x < 18446744073709551616) : Go.bits .and .u64 x 4294967295 = lowI x := by
  obtain ⟨n, rfl⟩ := Int.eq_ofNat_of_zero_le h0
  unfold lowI
  have e : (n &&& 4294967295) = n % 2 ^ 32 := Nat.and_two_pow_sub_one_eq_mod n 32
  rw [show (4294967295 : Int) = ((4294967295 : Nat) : Int) from rfl, u64_and_nat _ _ (by omega) (by omega), e]
  rfl
/-- A new row, whole. -/
theorem _root_.Go.Sep.Sep.newRow {κ : Type} {w : World} {S : Nat → Prop} {L : κ → Option Ck} (h : Sep w S L) (k : κ) (arr : Array Value) (e sz n : Nat) (hn : arr.size = n * sz) (hm : n ≤ maxLen) :
    Sep (w.alloc (.cells arr e)) S (upd L k (.rw e sz (.slice (some ⟨w.heap.size, 0, none⟩) n n) arr.toList)) := by
  refine h.put k _ ⟨_, n, n, rfl, by simpa using hn, (fun h => nomatch h), Nat.le_refl _, hm, fun _ => ⟨w.heap.size, arr, rfl, heap_alloc_new w _, hn, by rw [List.take_of_length_le (by simp; omega)]⟩⟩ (by simp) (fun k' c' hne e' => ?_) (fun b hb hS => ?_)
  · refine ⟨Ck.move (h.holds k' c' e') fun b hb => heap_alloc_old w _ (Ck.lt (h.holds k' c' e') hb), ?_⟩
    refine Ck.apart_of fun b hb hb' => ?_
    have hb : rowBlock (.slice (some ⟨w.heap.size, 0, none⟩) n n) = some b := hb
    simp only [rowBlock] at hb
    split at hb
    · cases hb
    · cases hb
      have := Ck.lt (h.holds k' c' e') hb'
      simp at this
  · have hb : rowBlock (.slice (some ⟨w.heap.size, 0, none⟩) n n) = some b := hb
    simp only [rowBlock] at hb
    split at hb
    · cases hb
    · cases hb
      have := h.lt _ hS
      simp at this
/-- A fresh row is held. -/
theorem _root_.Go.Sep.Sep.addRow {κ : Type} {w w1 : World} {S : Nat → Prop} {L : κ → Option Ck} (h : Sep w S L) (k : κ) {e sz : Nat} {v : Value} {xs : List Value} (hr : Row w1 e sz v xs) (hg : w.grownBy w1 none) (hf : ∀ b, rowBlock v = some b → w.heap.size ≤ b) :
    Sep w1 S (upd L k (.rw e sz v xs)) ∧ Ro S w w1 := by
  have hlt : ∀ b, b < w.heap.size → w1.heap[b]? = w.heap[b]? := fun b hb => hg.block b hb (by simp)
  refine ⟨h.put k _ hr hg.size (fun k' c' hne e' => ⟨Ck.move (h.holds k' c' e') fun b hb => hlt b (Ck.lt (h.holds k' c' e') hb), Ck.apart_of fun b hb hb' => ?_⟩) (fun b hb hS => ?_), ⟨hg.size, hg.os, hg.output⟩, fun b hb => hlt b (h.lt b hb)⟩
  · have h1 := hf b hb
    have h2 := Ck.lt (h.holds k' c' e') hb'
    omega
  · have h1 := hf b hb
    have h2 := h.lt b hS
    omega
theorem upd_comm {κ : Type} (L : κ → Option Ck) (k k' : κ) (c c' : Ck) (h : k ≠ k') : upd (upd L k c) k' c' = upd (upd L k' c') k c := by
  funext q
  by_cases e : q = k'
  · subst e; rw [upd_same, upd_other _ _ (Ne.symm h), upd_same]
  · rw [upd_other _ _ e]
    by_cases e2 : q = k
    · subst e2; rw [upd_same, upd_same]
    · rw [upd_other _ _ e2, upd_other _ _ e2, upd_other _ _ e]
/-- One more frame. -/
theorem frames_push {w5 w6 : World} {L5 : Key → Option Ck} {lv bv : Value} {B : Option Addr} {n6 c6 : Nat} (h : Md w S L u P M s) (fr : Fr) (hs : Sep w5 S L5) (ro : Ro S w w5)
    (hL : L5 = upd (upd L (.loc u s.c.frs.length) (.rw 26 1 lv (ints .u64 fr.loc))) (.lab u s.c.frs.length) (.rw 146 3 bv (labC fr.lab))) (fv sv vv : Value) (raws : List (Value × Value))
    (hC : L (.cfg u) = some (.cl P.cB P.co [fv, sv, .bool s.c.ov, .int .i64 s.c.er, vv])) (hlen : raws.length = s.c.frs.length) (hR : L (.fr u) = some (.rw 113 6 fv ((s.c.frs.zip raws).flatMap frG)))
    (hA : ∀ (k : Nat) f r, s.c.frs[k]? = some f → raws[k]? = some r → L (.loc u k) = some (.rw 26 1 r.1 (ints .u64 f.loc)) ∧ L (.lab u k) = some (.rw 146 3 r.2 (labC f.lab)))
    (hSt : L (.st u) = some (.rw 26 1 sv (ints .u64 s.c.st))) (hV : L (.va u) = some (.rw 26 1 vv (ints .u64 s.c.va)))
    (hr : Row w6 113 6 (.slice B n6 c6) (((s.c.frs.zip raws).flatMap frG) ++ frC fr lv bv)) (hg : w5.grownBy w6 (rowBlock fv)) (ha : rowBlock (.slice B n6 c6) = rowBlock fv ∨ ∃ b, rowBlock (.slice B n6 c6) = some b ∧ w5.heap.size ≤ b) :
    To w S L u P M (w6.setCell ⟨P.cB, P.co, none⟩ (.slice B n6 c6)) { s with c := { s.c with frs := s.c.frs ++ [fr] } } := by
  subst hL
  have e1 : ((s.c.frs.zip raws).flatMap frG) ++ frC fr lv bv = ((s.c.frs ++ [fr]).zip (raws ++ [(lv, bv)])).flatMap frG := by
    rw [List.zip_append hlen.symm]
    simp [frG]
  rw [e1] at hr
  have hfr5 : ∀ q : Key, q ≠ .loc u s.c.frs.length → q ≠ .lab u s.c.frs.length → (upd (upd L (.loc u s.c.frs.length) (.rw 26 1 lv (ints .u64 fr.loc))) (.lab u s.c.frs.length) (.rw 146 3 bv (labC fr.lab))) q = L q := fun q h1 h2 => by rw [upd_other _ _ h2, upd_other _ _ h1]
  obtain ⟨s6, r6⟩ := hs.grow ((hfr5 _ (by simp) (by simp)).trans hR) hr hg ha
  have hC6 : ∀ (X : Ck), upd (upd (upd L (.loc u s.c.frs.length) (.rw 26 1 lv (ints .u64 fr.loc))) (.lab u s.c.frs.length) (.rw 146 3 bv (labC fr.lab))) (.fr u) X (.cfg u) = some (.cl P.cB P.co [fv, sv, .bool s.c.ov, .int .i64 s.c.er, vv]) := fun X => by
    rw [upd_other _ _ (by simp), hfr5 _ (by simp) (by simp)]; exact hC
  have s7 := s6.set (hC6 _) 0 (by simp) (.slice B n6 c6)
  have r7 := (ro.trans' r6).trans' (s6.ro_setCell (hC6 _) (P.co + 0) (.slice B n6 c6))
  rw [Nat.add_zero] at s7 r7
  refine ⟨S, _, h.recfg s7 r7 (fun _ h => h) ⟨.slice B n6 c6, sv, vv, ?_, ⟨raws ++ [(lv, bv)], by simp [hlen], ?_, fun k f r x y => ?_⟩, ?_, ?_⟩ (cf_upd (cf_upd (cf_upd (cf_upd (fun _ _ => rfl) rfl) rfl) rfl) rfl), ((((Keep.refl u L).upd rfl).upd rfl).upd rfl).upd rfl, r7, fun _ h => h⟩
  · rw [upd_same]; rfl
  · rw [upd_other _ _ (by simp), upd_same]; rfl
  · have x : (s.c.frs ++ [fr])[k]? = some f := x
    rcases Nat.lt_trichotomy k s.c.frs.length with hk | hk | hk
    · rw [List.getElem?_append_left hk] at x
      rw [List.getElem?_append_left (by omega)] at y
      obtain ⟨a1, a2⟩ := hA k f r x y
      refine ⟨?_, ?_⟩
      · rw [upd_other _ _ (by simp), upd_other _ _ (by simp), hfr5 _ (by simp; omega) (by simp)]; exact a1
      · rw [upd_other _ _ (by simp), upd_other _ _ (by simp), hfr5 _ (by simp) (by simp; omega)]; exact a2
    · subst hk
      rw [List.getElem?_append_right (by omega)] at x
      rw [List.getElem?_append_right (by omega), hlen] at y
      simp at x y
      subst x y
      refine ⟨?_, ?_⟩
      · rw [upd_other _ _ (by simp), upd_other _ _ (by simp), upd_other _ _ (by simp), upd_same]
      · rw [upd_other _ _ (by simp), upd_other _ _ (by simp), upd_same]
    · rw [List.getElem?_eq_none (by simp; omega)] at x
      cases x
  · rw [upd_other _ _ (by simp), upd_other _ _ (by simp), hfr5 _ (by simp) (by simp)]; exact hSt
  · rw [upd_other _ _ (by simp), upd_other _ _ (by simp), hfr5 _ (by simp) (by simp)]; exact hV
end Go.Proofs.YtmnebeikafigjaaGreatDoor
/- step's machine: opens, where it does: the walk. -/
set_option linter.unusedVariables false
namespace Go.Proofs.YtmnebeikafigjaaGreatDoor
open Go.RowKit Go.Sep Go.St
variable {w : World} {S : Nat → Prop} {L : Key → Option Ck} {u : Nat} {P : Ptrs} {M : Mo} {s : Ms}
/-- The first j arguments are as their types want them. -/
def mixA (ps args : List Int) (j : Nat) : List Int := (argsOf ps args).take j ++ args.drop j
theorem argsOf_len {ps args : List Int} (h : args.length = ps.length) : (argsOf ps args).length = args.length := by simp [argsOf, h]
theorem mixA_len {ps args : List Int} (h : args.length = ps.length) (j : Nat) : (mixA ps args j).length = args.length := by
  simp only [mixA, List.length_append, List.length_take, List.length_drop, argsOf_len h]; omega
theorem mixA_0 (ps args : List Int) : mixA ps args 0 = args := by simp [mixA]
theorem mixA_all {ps args : List Int} (h : args.length = ps.length) : mixA ps args ps.length = argsOf ps args := by
  simp only [mixA]
  rw [List.take_of_length_le (by rw [argsOf_len h]; omega), List.drop_eq_nil_of_le (by omega), List.append_nil]
theorem mixA_get {ps args : List Int} (h : args.length = ps.length) (j : Nat) (x : Int) (hx : args[j]? = some x) : (mixA ps args j)[j]? = some x := by
  have hj := (List.getElem?_eq_some_iff.1 hx).1
  unfold mixA
  rw [List.getElem?_append_right (by rw [List.length_take, argsOf_len h]; omega), List.length_take, argsOf_len h, List.getElem?_drop, Nat.min_eq_left (by omega)]
  rw [show j + (j - j) = j by omega]
  exact hx
theorem mixA_succ {ps args : List Int} (h : args.length = ps.length) (j : Nat) (p x : Int) (hp : ps[j]? = some p) (hx : args[j]? = some x) : mixA ps args (j + 1) = (mixA ps args j).set j (if p = 127 then lowI x else x) := by
  have hj := (List.getElem?_eq_some_iff.1 hx).1
  have ha : (argsOf ps args)[j]? = some (if p = 127 then lowI x else x) := by
    simp only [argsOf, List.getElem?_zipWith, hp, hx]
  unfold mixA
  rw [List.take_add_one, ha, List.set_append_right _ _ (by rw [List.length_take, argsOf_len h]; omega), List.length_take, argsOf_len h, Nat.min_eq_left (by omega), show j - j = 0 by omega, List.append_assoc]
  congr 1
  have hd : args.drop j = x :: args.drop (j + 1) := by rw [List.drop_eq_getElem_cons hj]; congr 1; exact (List.getElem?_eq_some_iff.1 hx).2
  rw [hd, List.set_cons_zero]
  rfl
theorem _root_.List.set_getElem?_self' {α : Type} {l : List α} {i : Nat} {x : α} (h : l[i]? = some x) : l.set i x = l := by
  obtain ⟨h1, h2⟩ := List.getElem?_eq_some_iff.1 h
  rw [← h2]
  exact List.set_getElem_self h1
theorem upd_upd {κ : Type} (L : κ → Option Ck) (k : κ) (c c' : Ck) : upd (upd L k c) k c' = upd L k c' := by
  funext q
  by_cases e : q = k
  · subst e; rw [upd_same, upd_same]
  · rw [upd_other _ _ e, upd_other _ _ e, upd_other _ _ e]
/-- The locals, and the label, of a frame that is to be: the locals first. -/
theorem locs_A {W w4 : World} {v v2 : Value} {l l2 : List Int} {n : Nat} {lb : Lb} (hs : Sep W S (upd L (.loc u n) (.rw 26 1 v (ints .u64 l)))) (hr : Row w4 26 1 v2 (ints .u64 l2)) (hg : W.grownBy w4 (rowBlock v)) (ha : rowBlock v2 = rowBlock v ∨ ∃ b, rowBlock v2 = some b ∧ W.heap.size ≤ b) :
    Sep (w4.alloc (.cells #[.int .i64 lb.to, .int .i64 lb.ar, .int .i64 lb.ht] 146)) S (upd (upd L (.loc u n) (.rw 26 1 v2 (ints .u64 l2))) (.lab u n) (.rw 146 3 (.slice (some ⟨w4.heap.size, 0, none⟩) 1 1) (labC [lb]))) ∧
    Ro S W (w4.alloc (.cells #[.int .i64 lb.to, .int .i64 lb.ar, .int .i64 lb.ht] 146)) := by
  obtain ⟨s1, r1⟩ := hs.grow (upd_same _ _ _) hr hg ha
  rw [upd_upd] at s1
  exact ⟨s1.newRow (.lab u n) _ 146 3 1 rfl (by simp [maxLen]), r1.trans' ⟨⟨by simp, rfl, rfl⟩, fun b hb => heap_alloc_old w4 _ (s1.lt b hb)⟩⟩
/-- The label first. -/
theorem locs_B {W w4 : World} {v v2 : Value} {l l2 : List Int} {n : Nat} {lb : Lb} (hs : Sep W S (upd L (.loc u n) (.rw 26 1 v (ints .u64 l)))) (hr : Row w4 26 1 v2 (ints .u64 l2))
    (hg : (W.alloc (.cells #[.int .i64 lb.to, .int .i64 lb.ar, .int .i64 lb.ht] 146)).grownBy w4 (rowBlock v)) (ha : rowBlock v2 = rowBlock v ∨ ∃ b, rowBlock v2 = some b ∧ (W.alloc (.cells #[.int .i64 lb.to, .int .i64 lb.ar, .int .i64 lb.ht] 146)).heap.size ≤ b) :
    Sep w4 S (upd (upd L (.loc u n) (.rw 26 1 v2 (ints .u64 l2))) (.lab u n) (.rw 146 3 (.slice (some ⟨W.heap.size, 0, none⟩) 1 1) (labC [lb]))) ∧ Ro S W w4 := by
  have s1 := hs.newRow (.lab u n) #[.int .i64 lb.to, .int .i64 lb.ar, .int .i64 lb.ht] 146 3 1 rfl (by simp [maxLen])
  obtain ⟨s2, r2⟩ := s1.grow (k := .loc u n) (by rw [upd_other _ _ (by simp), upd_same]) hr hg ha
  rw [upd_comm _ _ _ _ _ (by simp), upd_upd, upd_comm _ _ _ _ _ (by simp)] at s2
  rw [upd_comm L (.loc u n) (.lab u n) _ _ (by simp)]
  exact ⟨s2, Ro.trans' (b := W.alloc (.cells #[.int .i64 lb.to, .int .i64 lb.ar, .int .i64 lb.ht] 146)) ⟨⟨by simp, rfl, rfl⟩, fun b hb => heap_alloc_old W _ (hs.lt b hb)⟩ r2⟩
set_option maxRecDepth 100000 in
set_option maxHeartbeats 4000000 in
theorem opens_yes (h : Md w S L u P M s) (f : Nat) (hf : f < 4294967296) (A : Option Addr) (m c : Nat) (args : List Int) (hargs : RdL w S 1 (num1 .u64) (.slice A m c) args) (hn : s.c.frs.length < 32) (t : Ft) (ht : functionM M s.i.blocks.length f = some t)
    (cd : Cd) (hcd : M.codes[f]? = some cd) (hm : args.length = t.ps.length) (hw : ∀ x ∈ args, 0 ≤ x ∧ x < 18446744073709551616) (hb : s.c.st.length ≤ 1000000000) :
    Calls Tryz.prog 71 #[.pointer (some ⟨P.mB, 0, none⟩), .int .u32 (f : Int), .slice A m c] w fun e w' => e = .returned (.tuple #[]) ∧
      To w S L u P M w' { s with c := { s.c with frs := s.c.frs ++ [⟨f, 0, t.rs.length, s.c.st.length, argsOf t.ps args ++ List.replicate cd.ls.length 0, [⟨(cd.body.length : Int) - 1, t.rs.length, s.c.st.length⟩]⟩] } } := by
  obtain ⟨fA, fc, c0⟩ := h.c0
  have m0 := h.sep.cell0 h.mach 0 _ rfl
  obtain ⟨rfl, hmc, hmm⟩ := hargs.len
  have hAc : A = none → c = 0 := by obtain ⟨A', c', hv, _, _, _, h4⟩ := hargs; cases hv; exact h4
  have HF := Lib.hid (function_yes h f hf t ht)
  have hps : t.ps.length ≤ 1000 ∧ t.rs.length ≤ 1000 := by
    obtain ⟨x, hx1, hx2, _⟩ := functionM_some ht
    exact (h.wf.ps t (List.mem_of_getElem? hx2)).2
  obtain ⟨mc, tA, fA', cA, bA, tc, fc', cc, bc, mv, tv, gv, ev, dv, hx⟩ := h.inx
  obtain ⟨cb, co, lA, lc, bA', bc', rfl, x0, x1, _, _⟩ := hx.body f cd hcd
  obtain ⟨fv, vv, sA, sN, sc, hs⟩ := h.stk
  have hsl := hs.len
  subst hsl
  have m1 := hx.m1
  have i11 := hx.i11
  have c1 := hs.c1
  have hcl := (List.getElem?_eq_some_iff.1 hcd).1
  have H := Lib.hid h
  have HA := Lib.hid hargs
  have HAC := Lib.hid hAc
  have HW := Lib.hid hw
  have HCD := Lib.hid hcd
  have HN := Lib.hid (And.intro hf (And.intro hn (And.intro hb (And.intro hps (And.intro hmc (h.wf.body cd (List.mem_of_getElem? hcd)))))))
  have HM := Lib.hid hm
  have d0 : decide (32 ≤ s.c.frs.length) = false := decide_eq_false (by omega)
  have d1 : decide ((32 : Int) ≤ (s.c.frs.length : Int)) = false := decide_eq_false (by omega)
  have d2 : ((args.length : Int) != (t.ps.length : Int)) = false := by rw [hm]; simp
  have d3 : ((args.length : Int) == (t.ps.length : Int)) = true := by rw [hm]; simp
  have KX := Lib.hid (And.intro m1 (And.intro i11 (And.intro x0 (And.intro x1 (And.intro c1 (And.intro hcl hs))))))
  clear h hf hargs hn hcd hm hw hb hmc hmm hAc ht hps hx hs m1 i11 x0 x1 c1 hcl
  go_enter Tryz.func71, Tryz.ntmps71
  go_wp2_with fail
  refine HF.out.mono ?_
  rintro e w1 ⟨pA, pc, rA, rc, rfl, hft, hst⟩
  have ST := Lib.hid (hst.alloc (.cells #[.slice pA t.ps.length pc, .slice rA t.rs.length rc] 36))
  have tB0 : (w1.alloc (.cells #[.slice pA t.ps.length pc, .slice rA t.rs.length rc] 36)).cell? ⟨w1.heap.size, 0, none⟩ = some (.slice pA t.ps.length pc) := by simp
  have tB1 : (w1.alloc (.cells #[.slice pA t.ps.length pc, .slice rA t.rs.length rc] 36)).cell? ⟨w1.heap.size, 1, none⟩ = some (.slice rA t.rs.length rc) := by simp
  have FT := Lib.hid hft
  clear hst hft
  go_wp2_with (go_at_call 39; (with_reducible refine (stuck_no _ _).mono ?_); rintro e w2 ⟨rfl, rfl⟩)
  generalize w1.heap.size = tB at *
  generalize w1.alloc (.cells #[.slice pA t.ps.length pc, .slice rA t.rs.length rc] 36) = w2 at *
  obtain ⟨hf, hn, hb, hps, hmc, hbd⟩ := HN.out
  have h2 := H.out.still ST.out
  have ra2 := (HA.out.mono (ST.out.ro H.out.sep.lt) (fun _ h => h) (fun _ _ h => h)).rd
  have hps1 : args.length ≤ 1000000000 := by rw [HM.out]; omega
  refine (clone_c w2 A _ c args HAC.out hmc ra2 hps1).mono ?_
  rintro e w3 ⟨B1, n1, c1, rfl, hr3, hg3, hf3⟩
  obtain ⟨s3, ro3⟩ := h2.sep.addRow (.loc u s.c.frs.length) hr3 hg3 hf3
  have hn1 : n1 = t.ps.length := by
    obtain ⟨A', n', c', hv, g1, _⟩ := hr3
    cases hv
    rw [ints_len, Nat.mul_one, HM.out] at g1
    exact g1.symm
  subst hn1
  have st3 : Still w2 w3 := Still.grown hg3
  have ro03 : Ro S w w3 := (ST.out.ro H.out.sep.lt).trans' ro3
  have lB := World.block_lt_of_cell? w2 _ tB0
  have T0 := st3.cell tB0
  have T1 := st3.cell tB1
  have C0 := (ST.out.trans st3).cell c0
  have M0 := (ST.out.trans st3).cell m0
  have KC := Lib.hid (And.intro s3 (And.intro ro03 (And.intro hr3 (And.intro hf3 (And.intro lB hg3)))))
  have K0 := Lib.hid (And.intro c0 m0)
  clear h2 ra2 hps1 hr3 hg3 hf3 s3 ro3 ro03 lB st3 tB0 tB1 c0 m0 hf hn hb hps hmc hbd HF
  go_wp2_with fail
  go_loopw [48] (fun i wr => ∃ j : Nat, j ≤ t.ps.length ∧ i = .int .i64 j ∧ Row wr 26 1 (.slice B1 t.ps.length c1) (ints .u64 (mixA t.ps args j)) ∧ w3.grownBy wr (rowBlock (.slice B1 t.ps.length c1))) (fun i _ => t.ps.length - (intOf i).toNat)
  case atStart =>
    refine ⟨0, Nat.zero_le _, rfl, ?_, ⟨rfl, rfl, rfl, Nat.le_refl _, fun _ _ _ => rfl⟩⟩
    rw [mixA_0]
    exact KC.out.2.2.1
  case round =>
    obtain ⟨j, hj, rfl, hrow, hgr⟩ := hrel
    have GR := Lib.hid hgr
    have RW := Lib.hid hrow
    clear hrow hgr
    obtain ⟨s3, ro03, hr3, hf3, lB, hg3⟩ := KC.out
    have far : ∀ (a : Addr) (v : Value), w3.cell? a = some v → a.block < w2.heap.size → wr.cell? a = some v := by
      intro a v hv hlt
      refine (World.cell?_of_block (GR.out.block a.block (World.block_lt_of_cell? w3 _ hv) fun he => ?_)).trans hv
      have := hf3 _ he.symm
      omega
    have FAR := Lib.hid far
    have T0' := far _ _ T0 lB
    have T1' := far _ _ T1 lB
    have l0 : P.cB < w2.heap.size := Nat.lt_of_lt_of_le (World.block_lt_of_cell? w _ K0.out.1) ST.out.1.1
    have l1 : P.mB < w2.heap.size := Nat.lt_of_lt_of_le (World.block_lt_of_cell? w _ K0.out.2) ST.out.1.1
    have C0' := far _ _ C0 l0
    have M0' := far _ _ M0 l1
    by_cases hlt : j < t.ps.length
    · obtain ⟨p, hp⟩ : ∃ p, t.ps[j]? = some p := ⟨_, List.getElem?_eq_getElem hlt⟩
      obtain ⟨x, hx⟩ : ∃ x, args[j]? = some x := ⟨_, List.getElem?_eq_getElem (by rw [HM.out]; exact hlt)⟩
      obtain ⟨pv, rv, hpr, hpR, _⟩ := FT.out
      obtain ⟨rfl, _⟩ : pv = .slice pA t.ps.length pc ∧ rv = .slice rA t.rs.length rc := by simp at hpr; exact ⟨hpr.1.symm, hpr.2.symm⟩
      obtain ⟨pb, po, v, rfl, hSb, hv1, pcell⟩ := hpR.get1 j p hp
      have hv1 : [v] = [.int .u8 p] := hv1
      obtain rfl : v = .int .u8 p := by simpa using hv1
      have pc3 : w3.cell? ⟨pb, po + j, none⟩ = some (.int .u8 p) := (World.cell?_of_block (a := ⟨pb, po + j, none⟩) (ro03.2 pb hSb)).trans pcell
      have pcr := far _ _ pc3 (Nat.lt_of_lt_of_le (H.out.sep.lt pb hSb) ST.out.1.1)
      have hxm := mixA_get HM.out j x hx
      have hB1 : ∃ g, B1 = some ⟨g, 0, none⟩ ∧ 0 < c1 := by
        obtain ⟨A', n', c', hv, _, hA', h2, _, h4⟩ := RW.out
        cases hv
        obtain ⟨g, cur, hg, _⟩ := h4 (by omega)
        exact ⟨g, hg, by omega⟩
      obtain ⟨g, rfl, hc1⟩ := hB1
      obtain ⟨lc, lz⟩ := Row.cell RW.out hc1 j (.int .u64 x) (ints_get _ _ _ _ hxm)
      have e0 : (0 : Int) ≤ (j : Int) := by omega
      have e1 : (j : Int) < (t.ps.length : Int) := by omega
      have hi1 : IntKind.i64.wrap ((j : Int) + 1) = (j : Int) + 1 := IntWalk.i64_in _ (by have := HN.out; omega)
      have hss := mixA_succ HM.out j p x hp hx
      by_cases h127 : p = 127
      · subst h127
        have hlow := and_low x (HW.out x (List.mem_of_getElem? hx)).1 (HW.out x (List.mem_of_getElem? hx)).2
        rw [if_pos rfl] at hss
        have hset := Row.set RW.out j (by rw [ints_len, mixA_len HM.out, HM.out]; exact hlt) (.int .u64 (lowI x))
        have hset' : (ints .u64 (mixA t.ps args j)).set j (.int .u64 (lowI x)) = ints .u64 (mixA t.ps args (j + 1)) := by rw [hss]; simp [ints, List.map_set]
        rw [hset'] at hset
        have HSE := Lib.hid (And.intro hset.1 (GR.out.trans hset.2))
        clear hset hset' hss far hpR hpr hp hx hxm pcell pc3 hSb s3 ro03 hr3 hf3 lB hg3 l0 l1
        go_wp2
        go_roundw
        case rel => exact ⟨j + 1, by omega, by go_num, HSE.out.1, HSE.out.2⟩
        case measure => (simp [intOf]; try omega)
      · have d127 : (p == 127) = false := beq_eq_false_iff_ne.2 h127
        rw [if_neg h127] at hss
        have hset' : mixA t.ps args j = mixA t.ps args (j + 1) := by rw [hss, List.set_getElem?_self' hxm]
        have HSE := Lib.hid (And.intro (hset' ▸ RW.out) GR.out)
        clear hset' hss far hpR hpr hp hx hxm pcell pc3 hSb s3 ro03 hr3 hf3 lB hg3 l0 l1
        go_wp2
        go_roundw
        case rel => exact ⟨j + 1, by omega, by go_num, HSE.out.1, HSE.out.2⟩
        case measure => (simp [intOf]; try omega)
    · obtain rfl : j = t.ps.length := by omega
      have w23 : ∀ (a : Addr) (v : Value), w.cell? a = some v → wr.cell? a = some v := fun a v hv => far _ _ ((ST.out.trans (Still.grown hg3)).cell hv) (Nat.lt_of_lt_of_le (World.block_lt_of_cell? w _ hv) ST.out.1.1)
      obtain ⟨m1, i11, x0, x1, c1, hcl, hs⟩ := KX.out
      have M1 := w23 _ _ m1
      have I11 := w23 _ _ i11
      have X0 := w23 _ _ x0
      have X1 := w23 _ _ x1
      have C1 := w23 _ _ c1
      have Z0 : wr.frozen? ⟨P.cB, P.co, none⟩ = false := by
        have e1 : wr.heap[P.cB]? = w3.heap[P.cB]? := GR.out.block P.cB (Nat.lt_of_lt_of_le l0 (Still.grown hg3).1.1) fun he => by have := hf3 _ he.symm; omega
        have e2 : w3.heap[P.cB]? = w.heap[P.cB]? := (ST.out.trans (Still.grown hg3)).2 P.cB (World.block_lt_of_cell? w _ K0.out.1)
        rw [World.frozen?_of_block (w := w) (a := ⟨P.cB, P.co, none⟩) (e1.trans e2)]
        exact hs.z _
      obtain ⟨s4, ro4⟩ := s3.grow (upd_same _ _ _) RW.out GR.out (.inl rfl)
      rw [upd_upd, mixA_all HM.out] at s4
      have d5 : decide (t.ps.length < t.ps.length) = false := by simp
      have g0 : (0 : Int) ≤ (f : Int) := by omega
      have g1 : (f : Int) < (M.codes.length : Int) := by omega
      have n1 : P.mB < wr.heap.size := World.block_lt_of_cell? wr _ M0'
      have n2 : P.cB < wr.heap.size := World.block_lt_of_cell? wr _ C0'
      have n3 : tB < wr.heap.size := World.block_lt_of_cell? wr _ T0'
      have n4 : P.iB < wr.heap.size := World.block_lt_of_cell? wr _ I11
      have n5 : cb < wr.heap.size := World.block_lt_of_cell? wr _ X0
      have hi1 : IntKind.i64.wrap (f : Int) = (f : Int) := IntWalk.i64_in _ (by have := HN.out; omega)
      have hi2 : IntKind.i64.wrap ((cd.body.length : Int) - 1) = (cd.body.length : Int) - 1 := IntWalk.i64_in _ (by have := HN.out; omega)
      have KS := Lib.hid (And.intro s4 (ro03.trans' (Ro.trans' ⟨⟨GR.out.size, GR.out.os, GR.out.output⟩, fun b hb => GR.out.block b (s3.lt b hb) (fun he => by have := hf3 _ he.symm; have := H.out.sep.lt b hb; have := ST.out.1.1; omega)⟩ (Ro.refl _ _))))
      clear s3 ro03 hr3 hf3 lB hg3 far w23 m1 i11 x0 x1 c1 hcl hs l0 l1 ro4 s4 hlt T0 T1 C0 M0 GR FAR d0 d1 d2 d3
      have KR := Lib.hid (mixA_all HM.out ▸ RW.out)
      go_wp2_with fail
      go_quiet (fail)
      go_wp2_with fail
      have sa : Still wr ((wr.alloc (.cells #[.slice lA cd.ls.length lc, .slice bA' cd.body.length bc'] 39)).drewN nq) := ((Still.refl wr).alloc _).drewN _
      have M0W := sa.cell M0'
      have C0W := sa.cell C0'
      have XW0 : ((wr.alloc (.cells #[.slice lA cd.ls.length lc, .slice bA' cd.body.length bc'] 39)).drewN nq).cell? ⟨wr.heap.size, 0, none⟩ = some (.slice lA cd.ls.length lc) := by simp
      have XW1 : ((wr.alloc (.cells #[.slice lA cd.ls.length lc, .slice bA' cd.body.length bc'] 39)).drewN nq).cell? ⟨wr.heap.size, 1, none⟩ = some (.slice bA' cd.body.length bc') := by simp
      have Z0W : ((wr.alloc (.cells #[.slice lA cd.ls.length lc, .slice bA' cd.body.length bc'] 39)).drewN nq).frozen? ⟨P.cB, P.co, none⟩ = false := (World.frozen?_of_block (a := ⟨P.cB, P.co, none⟩) (sa.2 P.cB n2)).trans Z0
      have KSW := Lib.hid (And.intro (KS.out.1.still sa.1.1 sa.2) (KS.out.2.trans' (sa.ro KS.out.1.lt)))
      have KRW : Row ((wr.alloc (.cells #[.slice lA cd.ls.length lc, .slice bA' cd.body.length bc'] 39)).drewN nq) 26 1 (.slice B1 t.ps.length c1) (ints .u64 (argsOf t.ps args)) := KS.out.1.still sa.1.1 sa.2 |>.holds _ _ (upd_same _ _ _)
      have KRW := Lib.hid KRW
      have hl : ∀ b, rowBlock (.slice B1 t.ps.length c1) = some b → w.heap.size ≤ b ∧ b < wr.heap.size := fun b hb => ⟨Nat.le_trans ST.out.1.1 (KC.out.2.2.2.1 b hb), Row.lt RW.out hb⟩
      have hxB : w.heap.size ≤ wr.heap.size := KS.out.2.1.1
      clear sa M0' C0' T0' T1' M1 I11 X0 X1 C1 Z0 n1 n2 n3 n4 n5 KS KR RW g0 g1 d5 hj KC ST FT HW HA HAC
      generalize (wr.alloc (.cells #[.slice lA cd.ls.length lc, .slice bA' cd.body.length bc'] 39)).drewN nq = W at *
      generalize wr.heap.size = xB at *
      have lmB : P.mB < w.heap.size := World.block_lt_of_cell? w _ K0.out.2
      have lcB : P.cB < w.heap.size := World.block_lt_of_cell? w _ K0.out.1
      have keep : ∀ (r : Option Nat) (W0 w4 : World), (∀ b, r = some b → b ≠ P.mB ∧ b ≠ P.cB ∧ b ≠ xB) → W0.cell? ⟨P.mB, 0, none⟩ = some (.pointer (some ⟨P.cB, P.co, none⟩)) ∧ W0.cell? ⟨P.cB, P.co, none⟩ = some (.slice fA s.c.frs.length fc) ∧ W0.cell? ⟨xB, 0, none⟩ = some (.slice lA cd.ls.length lc) ∧ W0.cell? ⟨xB, 1, none⟩ = some (.slice bA' cd.body.length bc') →
          W0.grownBy w4 r → w4.cell? ⟨P.mB, 0, none⟩ = some (.pointer (some ⟨P.cB, P.co, none⟩)) ∧ w4.cell? ⟨P.cB, P.co, none⟩ = some (.slice fA s.c.frs.length fc) ∧ w4.cell? ⟨xB, 0, none⟩ = some (.slice lA cd.ls.length lc) ∧ w4.cell? ⟨xB, 1, none⟩ = some (.slice bA' cd.body.length bc') := by
        intro r W0 w4 hr ⟨a1, a2, a3, a4⟩ g
        exact ⟨g.cell a1 (fun e => (hr _ e.symm).1 rfl), g.cell a2 (fun e => (hr _ e.symm).2.1 rfl), g.cell a3 (fun e => (hr _ e.symm).2.2 rfl), g.cell a4 (fun e => (hr _ e.symm).2.2 rfl)⟩
      obtain ⟨fv', sv', vv', hC, ⟨raws, hlen, hR, hA⟩, hSt, hV⟩ := H.out.cfg
      have hflat : ((s.c.frs.zip raws).flatMap fun p => frC p.1 p.2.1 p.2.2) = (s.c.frs.zip raws).flatMap frG := rfl
      rw [hflat] at hR
      obtain rfl : fv' = .slice fA s.c.frs.length fc := by have e1 := H.out.sep.cellA hC; rw [K0.out.1] at e1; injection e1 with e1; exact e1.symm
      have hfB : ∀ b, rowBlock (.slice fA s.c.frs.length fc) = some b → b ≠ P.mB ∧ b ≠ P.cB ∧ b ≠ xB := by
        intro b hb
        have h1 := Ck.lt (H.out.sep.holds _ _ hR) (b := b) hb
        refine ⟨?_, ?_, by omega⟩
        · rintro rfl
          exact H.out.sep.apart (.fr u) .mach _ _ (by simp) hR H.out.mach _ hb rfl
        · rintro rfl
          exact H.out.sep.apart (.fr u) (.cfg u) _ _ (by simp) hR hC _ hb rfl
      have KEEP1 := Lib.hid (fun W0 w4 => keep (rowBlock (.slice B1 t.ps.length c1)) W0 w4 (fun b hb => by have := hl b hb; omega))
      have KEEP2 := Lib.hid (fun W0 w4 => keep (rowBlock (.slice fA s.c.frs.length fc)) W0 w4 hfB)
      have fin : ∀ (w5 : World) (lv bv : Value), (Sep w5 S (upd (upd L (.loc u s.c.frs.length) (.rw 26 1 lv (ints .u64 (argsOf t.ps args ++ List.replicate cd.ls.length 0)))) (.lab u s.c.frs.length) (.rw 146 3 bv (labC [⟨(cd.body.length : Int) - 1, t.rs.length, s.c.st.length⟩]))) ∧ Ro S W.drew w5) →
          Row (w5.alloc (.cells #[.int .i64 f, .int .i64 0, .int .i64 t.rs.length, .int .i64 s.c.st.length, lv, bv] 113)) 113 6 (.slice fA s.c.frs.length fc) ((s.c.frs.zip raws).flatMap frG) ∧
          Rd (w5.alloc (.cells #[.int .i64 f, .int .i64 0, .int .i64 t.rs.length, .int .i64 s.c.st.length, lv, bv] 113)) 6 (some ⟨w5.heap.size, 0, none⟩) 1 [.int .i64 f, .int .i64 0, .int .i64 t.rs.length, .int .i64 s.c.st.length, lv, bv] ∧
          ∀ (B : Option Addr) (n6 c6 : Nat) (w7 : World), Row w7 113 6 (.slice B n6 c6) (((s.c.frs.zip raws).flatMap frG) ++ [.int .i64 f, .int .i64 0, .int .i64 t.rs.length, .int .i64 s.c.st.length, lv, bv]) →
            (w5.alloc (.cells #[.int .i64 f, .int .i64 0, .int .i64 t.rs.length, .int .i64 s.c.st.length, lv, bv] 113)).grownBy w7 (rowBlock (.slice fA s.c.frs.length fc)) →
            (rowBlock (.slice B n6 c6) = rowBlock (.slice fA s.c.frs.length fc) ∨ ∃ b, rowBlock (.slice B n6 c6) = some b ∧ (w5.alloc (.cells #[.int .i64 f, .int .i64 0, .int .i64 t.rs.length, .int .i64 s.c.st.length, lv, bv] 113)).heap.size ≤ b) →
            To w S L u P M (w7.setCell ⟨P.cB, P.co, none⟩ (.slice B n6 c6)) { s with c := { s.c with frs := s.c.frs ++ [⟨f, 0, t.rs.length, s.c.st.length, argsOf t.ps args ++ List.replicate cd.ls.length 0, [⟨(cd.body.length : Int) - 1, t.rs.length, s.c.st.length⟩]⟩] } } ∧ w7.frozen? ⟨P.cB, P.co, none⟩ = false := by
        intro w5 lv bv ⟨hs5, ro5⟩
        have hs6 := hs5.alloc (.cells #[.int .i64 f, .int .i64 0, .int .i64 t.rs.length, .int .i64 s.c.st.length, lv, bv] 113)
        have roW : Ro S w w5 := (KSW.out.2.trans' (⟨⟨Nat.le_refl _, rfl, rfl⟩, fun _ _ => rfl⟩ : Ro S W W.drew)).trans' ro5
        have ro6 : Ro S w (w5.alloc (.cells #[.int .i64 f, .int .i64 0, .int .i64 t.rs.length, .int .i64 s.c.st.length, lv, bv] 113)) := roW.trans' ⟨⟨by simp, rfl, rfl⟩, fun b hb => heap_alloc_old w5 _ (hs5.lt b hb)⟩
        have hR5 : upd (upd L (.loc u s.c.frs.length) (.rw 26 1 lv (ints .u64 (argsOf t.ps args ++ List.replicate cd.ls.length 0)))) (.lab u s.c.frs.length) (.rw 146 3 bv (labC [⟨(cd.body.length : Int) - 1, t.rs.length, s.c.st.length⟩])) (.fr u) = some (.rw 113 6 (.slice fA s.c.frs.length fc) ((s.c.frs.zip raws).flatMap frG)) := by
          rw [upd_other _ _ (by simp), upd_other _ _ (by simp)]; exact hR
        have hC5 : upd (upd L (.loc u s.c.frs.length) (.rw 26 1 lv (ints .u64 (argsOf t.ps args ++ List.replicate cd.ls.length 0)))) (.lab u s.c.frs.length) (.rw 146 3 bv (labC [⟨(cd.body.length : Int) - 1, t.rs.length, s.c.st.length⟩])) (.cfg u) = some (.cl P.cB P.co [.slice fA s.c.frs.length fc, sv', .bool s.c.ov, .int .i64 s.c.er, vv']) := by
          rw [upd_other _ _ (by simp), upd_other _ _ (by simp)]; exact hC
        refine ⟨hs6.holds _ _ hR5, ⟨rfl, fun _ => ⟨_, rfl, rfl, fun j v hv => ?_⟩⟩, fun B n6 c6 w7 hr hg ha => ⟨?_, ?_⟩⟩
        · rw [show (Addr.mk w5.heap.size 0 none).add j = ⟨w5.heap.size, j, none⟩ by unfold Addr.add; split <;> simp_all]
          simpa using hv
        · exact frames_push H.out ⟨f, 0, t.rs.length, s.c.st.length, argsOf t.ps args ++ List.replicate cd.ls.length 0, [⟨(cd.body.length : Int) - 1, t.rs.length, s.c.st.length⟩]⟩ hs6 ro6 rfl _ sv' vv' raws hC hlen hR hA hSt hV hr hg ha
        · exact ((hs6.grown_cell hR5 hg hC5 _ rfl).2).trans (hs6.frozen hC5 _)
      have FIN := Lib.hid fin
      have ROWA : Row W.drew 26 1 (.slice B1 t.ps.length c1) (ints .u64 (argsOf t.ps args)) := KRW.out
      have ROWA := Lib.hid ROWA
      have rowB : ∀ o, Row (W.drew.alloc o) 26 1 (.slice B1 t.ps.length c1) (ints .u64 (argsOf t.ps args)) := fun o => (KSW.out.1.drew.alloc o).holds _ _ (upd_same _ _ _)
      have ROWB := Lib.hid rowB
      have LBD := Lib.hid (show (argsOf t.ps args).length + cd.ls.length ≤ 1000000000 by rw [argsOf_len HM.out, HM.out]; have := HN.out; omega)
      have KSD := Lib.hid KSW.out.1.drew
      have hbt : ((s.c.frs.zip raws).flatMap frG).length = s.c.frs.length * 6 := by rw [flat_len frG 6 frG_len, List.length_zip, hlen, Nat.min_self]
      have HBT := Lib.hid (show (((s.c.frs.zip raws).flatMap frG).length + 6) * 80 ≤ 140737488355328 by rw [hbt]; have := HN.out; omega)
      clear keep fin rowB hbt hfB hl hxB lmB lcB KSW KRW hC hR hA hSt hV hlen hflat HCD K0 KX
      refine wp_region_z (fun w' => w'.cell? ⟨P.mB, 0, none⟩ = some (.pointer (some ⟨P.cB, P.co, none⟩)) ∧ w'.cell? ⟨P.cB, P.co, none⟩ = some (.slice fA s.c.frs.length fc) ∧ w'.cell? ⟨xB, 0, none⟩ = some (.slice lA cd.ls.length lc) ∧ w'.cell? ⟨xB, 1, none⟩ = some (.slice bA' cd.body.length bc')) (fun j => j == 31 || j == 32 || j == 33) (by kernel_rfl) ?_ (fun hHeld => ?_)
      · first | exact ⟨M0W, C0W, XW0, XW1⟩ | exact qk2 | exact qk | exact ⟨(World.cell?_alloc_some _ _ _ (Option.isSome_iff_exists.2 ⟨_, hHeld.1⟩)).trans hHeld.1, (World.cell?_alloc_some _ _ _ (Option.isSome_iff_exists.2 ⟨_, hHeld.2.1⟩)).trans hHeld.2.1, (World.cell?_alloc_some _ _ _ (Option.isSome_iff_exists.2 ⟨_, hHeld.2.2.1⟩)).trans hHeld.2.2.1, (World.cell?_alloc_some _ _ _ (Option.isSome_iff_exists.2 ⟨_, hHeld.2.2.2⟩)).trans hHeld.2.2.2⟩
      (refine wpZ_take (i := 0) (oi := ⟨some 84, .move (.tmp 0), 103, _, _, none⟩) (v := ?_) rfl (by kernel_rfl) (fun _ _ _ h => h) (by assumption) (Or.inl ⟨by rfl, ?_⟩) ?_; rotate_left 1; · ((intro w hSw; (try dsimp only at hSw); go_split_ands; go_simp) <;> (try with_reducible rfl)))
      try simp only [Act.put, List.setIfInBounds_toArray, List.set_cons_zero, List.set_cons_succ]
      (refine wpZ_take (i := 1) (oi := ⟨some 85, .nilCheck (.tmp 84), 0, _, _, none⟩) (v := ?_) rfl (by kernel_rfl) (fun _ _ _ h => h) (by assumption) (Or.inl ⟨by rfl, ?_⟩) ?_; rotate_left 1; · ((intro w hSw; (try dsimp only at hSw); go_split_ands; go_simp) <;> (try with_reducible rfl)))
      try simp only [Act.put, List.setIfInBounds_toArray, List.set_cons_zero, List.set_cons_succ]
      (refine wpZ_take (i := 2) (oi := ⟨some 86, .fieldAddr 105 (.tmp 85) 0, 0, _, _, none⟩) (v := ?_) rfl (by kernel_rfl) (fun _ _ _ h => h) (by assumption) (Or.inl ⟨by rfl, ?_⟩) ?_; rotate_left 1; · ((intro w hSw; (try dsimp only at hSw); go_split_ands; go_simp) <;> (try with_reducible rfl)))
      try simp only [Act.put, List.setIfInBounds_toArray, List.set_cons_zero, List.set_cons_succ]
      (refine wpZ_take (i := 3) (oi := ⟨some 87, .load 62 (.tmp 86), 62, _, _, none⟩) (v := ?_) rfl (by kernel_rfl) (fun _ _ _ h => h) (by assumption) (Or.inl ⟨by rfl, ?_⟩) ?_; rotate_left 1; · ((intro w hSw; (try dsimp only at hSw); go_split_ands; go_simp) <;> (try with_reducible rfl)))
      try simp only [Act.put, List.setIfInBounds_toArray, List.set_cons_zero, List.set_cons_succ]
      (refine wpZ_take (i := 4) (oi := ⟨some 88, .move (.tmp 0), 103, _, _, none⟩) (v := ?_) rfl (by kernel_rfl) (fun _ _ _ h => h) (by assumption) (Or.inl ⟨by rfl, ?_⟩) ?_; rotate_left 1; · ((intro w hSw; (try dsimp only at hSw); go_split_ands; go_simp) <;> (try with_reducible rfl)))
      try simp only [Act.put, List.setIfInBounds_toArray, List.set_cons_zero, List.set_cons_succ]
      (refine wpZ_take (i := 5) (oi := ⟨some 89, .nilCheck (.tmp 88), 0, _, _, none⟩) (v := ?_) rfl (by kernel_rfl) (fun _ _ _ h => h) (by assumption) (Or.inl ⟨by rfl, ?_⟩) ?_; rotate_left 1; · ((intro w hSw; (try dsimp only at hSw); go_split_ands; go_simp) <;> (try with_reducible rfl)))
      try simp only [Act.put, List.setIfInBounds_toArray, List.set_cons_zero, List.set_cons_succ]
      (refine wpZ_take (i := 6) (oi := ⟨some 90, .fieldAddr 105 (.tmp 89) 0, 0, _, _, none⟩) (v := ?_) rfl (by kernel_rfl) (fun _ _ _ h => h) (by assumption) (Or.inl ⟨by rfl, ?_⟩) ?_; rotate_left 1; · ((intro w hSw; (try dsimp only at hSw); go_split_ands; go_simp) <;> (try with_reducible rfl)))
      try simp only [Act.put, List.setIfInBounds_toArray, List.set_cons_zero, List.set_cons_succ]
      (refine wpZ_take (i := 7) (oi := ⟨some 91, .load 62 (.tmp 90), 62, _, _, none⟩) (v := ?_) rfl (by kernel_rfl) (fun _ _ _ h => h) (by assumption) (Or.inl ⟨by rfl, ?_⟩) ?_; rotate_left 1; · ((intro w hSw; (try dsimp only at hSw); go_split_ands; go_simp) <;> (try with_reducible rfl)))
      try simp only [Act.put, List.setIfInBounds_toArray, List.set_cons_zero, List.set_cons_succ]
      (refine wpZ_take (i := 8) (oi := ⟨some 92, .nilCheck (.tmp 91), 0, _, _, none⟩) (v := ?_) rfl (by kernel_rfl) (fun _ _ _ h => h) (by assumption) (Or.inl ⟨by rfl, ?_⟩) ?_; rotate_left 1; · ((intro w hSw; (try dsimp only at hSw); go_split_ands; go_simp) <;> (try with_reducible rfl)))
      try simp only [Act.put, List.setIfInBounds_toArray, List.set_cons_zero, List.set_cons_succ]
      (refine wpZ_take (i := 9) (oi := ⟨some 93, .fieldAddr 59 (.tmp 92) 0, 0, _, _, none⟩) (v := ?_) rfl (by kernel_rfl) (fun _ _ _ h => h) (by assumption) (Or.inl ⟨by rfl, ?_⟩) ?_; rotate_left 1; · ((intro w hSw; (try dsimp only at hSw); go_split_ands; go_simp) <;> (try with_reducible rfl)))
      try simp only [Act.put, List.setIfInBounds_toArray, List.set_cons_zero, List.set_cons_succ]
      (refine wpZ_take (i := 10) (oi := ⟨some 94, .load 56 (.tmp 93), 56, _, _, none⟩) (v := ?_) rfl (by kernel_rfl) (fun _ _ _ h => h) (by assumption) (Or.inl ⟨by rfl, ?_⟩) ?_; rotate_left 1; · ((intro w hSw; (try dsimp only at hSw); go_split_ands; go_simp) <;> (try with_reducible rfl)))
      try simp only [Act.put, List.setIfInBounds_toArray, List.set_cons_zero, List.set_cons_succ]
      (refine wpZ_take (i := 11) (oi := ⟨some 95, .move (.tmp 1), 25, _, _, none⟩) (v := ?_) rfl (by kernel_rfl) (fun _ _ _ h => h) (by assumption) (Or.inl ⟨by rfl, ?_⟩) ?_; rotate_left 1; · ((intro w hSw; (try dsimp only at hSw); go_split_ands; go_simp) <;> (try with_reducible rfl)))
      try simp only [Act.put, List.setIfInBounds_toArray, List.set_cons_zero, List.set_cons_succ]
      (refine wpZ_take (i := 12) (oi := ⟨some 96, .convert 25 3 (.tmp 95), 3, _, _, none⟩) (v := ?_) rfl (by kernel_rfl) (fun _ _ _ h => h) (by assumption) (Or.inl ⟨by rfl, ?_⟩) ?_; rotate_left 1; · ((intro w hSw; (try dsimp only at hSw); go_split_ands; go_simp) <;> (try with_reducible rfl)))
      try simp only [Act.put, List.setIfInBounds_toArray, List.set_cons_zero, List.set_cons_succ]
      (refine wpZ_take (i := 13) (oi := ⟨some 97, .move (.tmp 12), 3, _, _, none⟩) (v := ?_) rfl (by kernel_rfl) (fun _ _ _ h => h) (by assumption) (Or.inl ⟨by rfl, ?_⟩) ?_; rotate_left 1; · ((intro w hSw; (try dsimp only at hSw); go_split_ands; go_simp) <;> (try with_reducible rfl)))
      try simp only [Act.put, List.setIfInBounds_toArray, List.set_cons_zero, List.set_cons_succ]
      (refine wpZ_take (i := 14) (oi := ⟨some 98, .move (.tmp 13), 3, _, _, none⟩) (v := ?_) rfl (by kernel_rfl) (fun _ _ _ h => h) (by assumption) (Or.inl ⟨by rfl, ?_⟩) ?_; rotate_left 1; · ((intro w hSw; (try dsimp only at hSw); go_split_ands; go_simp) <;> (try with_reducible rfl)))
      try simp only [Act.put, List.setIfInBounds_toArray, List.set_cons_zero, List.set_cons_succ]
      (refine wpZ_take (i := 15) (oi := ⟨some 99, .move (.tmp 8), 57, _, _, none⟩) (v := ?_) rfl (by kernel_rfl) (fun _ _ _ h => h) (by assumption) (Or.inl ⟨by rfl, ?_⟩) ?_; rotate_left 1; · ((intro w hSw; (try dsimp only at hSw); go_split_ands; go_simp) <;> (try with_reducible rfl)))
      try simp only [Act.put, List.setIfInBounds_toArray, List.set_cons_zero, List.set_cons_succ]
      (refine wpZ_take (i := 16) (oi := ⟨some 100, .fieldAddr 39 (.tmp 11) 0, 0, _, _, none⟩) (v := ?_) rfl (by kernel_rfl) (fun _ _ _ h => h) (by assumption) (Or.inl ⟨by rfl, ?_⟩) ?_; rotate_left 1; · ((intro w hSw; (try dsimp only at hSw); go_split_ands; go_simp) <;> (try with_reducible rfl)))
      try simp only [Act.put, List.setIfInBounds_toArray, List.set_cons_zero, List.set_cons_succ]
      (refine wpZ_take (i := 17) (oi := ⟨some 101, .load 34 (.tmp 100), 34, _, _, none⟩) (v := ?_) rfl (by kernel_rfl) (fun _ _ _ h => h) (by assumption) (Or.inl ⟨by rfl, ?_⟩) ?_; rotate_left 1; · ((intro w hSw; (try dsimp only at hSw); go_split_ands; go_simp) <;> (try with_reducible rfl)))
      try simp only [Act.put, List.setIfInBounds_toArray, List.set_cons_zero, List.set_cons_succ]
      (refine wpZ_take (i := 18) (oi := ⟨some 102, .call { callee := .builtin .len, args := #[.tmp 101], argTypes := #[34] }, 3, _, _, none⟩) (v := ?_) rfl (by kernel_rfl) (fun _ _ _ h => h) (by assumption) (Or.inl ⟨by rfl, ?_⟩) ?_; rotate_left 1; · ((intro w hSw; (try dsimp only at hSw); go_split_ands; go_simp) <;> (try with_reducible rfl)))
      try simp only [Act.put, List.setIfInBounds_toArray, List.set_cons_zero, List.set_cons_succ]
      (refine wpZ_take (i := 20) (oi := ⟨some 104, .fieldAddr 39 (.tmp 11) 1, 0, _, _, none⟩) (v := ?_) rfl (by kernel_rfl) (fun _ _ _ h => h) (by assumption) (Or.inl ⟨by rfl, ?_⟩) ?_; rotate_left 1; · ((intro w hSw; (try dsimp only at hSw); go_split_ands; go_simp) <;> (try with_reducible rfl)))
      try simp only [Act.put, List.setIfInBounds_toArray, List.set_cons_zero, List.set_cons_succ]
      (refine wpZ_take (i := 21) (oi := ⟨some 105, .load 24 (.tmp 104), 24, _, _, none⟩) (v := ?_) rfl (by kernel_rfl) (fun _ _ _ h => h) (by assumption) (Or.inl ⟨by rfl, ?_⟩) ?_; rotate_left 1; · ((intro w hSw; (try dsimp only at hSw); go_split_ands; go_simp) <;> (try with_reducible rfl)))
      try simp only [Act.put, List.setIfInBounds_toArray, List.set_cons_zero, List.set_cons_succ]
      (refine wpZ_take (i := 22) (oi := ⟨some 106, .call { callee := .builtin .len, args := #[.tmp 105], argTypes := #[24] }, 3, _, _, none⟩) (v := ?_) rfl (by kernel_rfl) (fun _ _ _ h => h) (by assumption) (Or.inl ⟨by rfl, ?_⟩) ?_; rotate_left 1; · ((intro w hSw; (try dsimp only at hSw); go_split_ands; go_simp) <;> (try with_reducible rfl)))
      try simp only [Act.put, List.setIfInBounds_toArray, List.set_cons_zero, List.set_cons_succ]
      (refine wpZ_take (i := 23) (oi := ⟨some 107, .binOp .sub 3 (.tmp 106) (.const (.int .i64 1)) 3, 3, _, _, none⟩) (v := ?_) rfl (by kernel_rfl) (fun _ _ _ h => h) (by assumption) (Or.inl ⟨by rfl, ?_⟩) ?_; rotate_left 1; · ((intro w hSw; (try dsimp only at hSw); go_split_ands; go_simp) <;> (try with_reducible rfl)))
      try simp only [Act.put, List.setIfInBounds_toArray, List.set_cons_zero, List.set_cons_succ]
      (refine wpZ_take (i := 24) (oi := ⟨some 108, .move (.tmp 12), 3, _, _, none⟩) (v := ?_) rfl (by kernel_rfl) (fun _ _ _ h => h) (by assumption) (Or.inl ⟨by rfl, ?_⟩) ?_; rotate_left 1; · ((intro w hSw; (try dsimp only at hSw); go_split_ands; go_simp) <;> (try with_reducible rfl)))
      try simp only [Act.put, List.setIfInBounds_toArray, List.set_cons_zero, List.set_cons_succ]
      (refine wpZ_take (i := 25) (oi := ⟨some 109, .move (.tmp 13), 3, _, _, none⟩) (v := ?_) rfl (by kernel_rfl) (fun _ _ _ h => h) (by assumption) (Or.inl ⟨by rfl, ?_⟩) ?_; rotate_left 1; · ((intro w hSw; (try dsimp only at hSw); go_split_ands; go_simp) <;> (try with_reducible rfl)))
      try simp only [Act.put, List.setIfInBounds_toArray, List.set_cons_zero, List.set_cons_succ]
      (refine wpZ_take (i := 26) (oi := ⟨some 110, .build 146 #[(0, .tmp 107), (1, .tmp 108), (2, .tmp 109)], 146, _, _, none⟩) (v := ?_) rfl (by kernel_rfl) (fun _ _ _ h => h) (by assumption) (Or.inl ⟨by rfl, ?_⟩) ?_; rotate_left 1; · ((intro w hSw; (try dsimp only at hSw); go_split_ands; go_simp) <;> (try with_reducible rfl)))
      try simp only [Act.put, List.setIfInBounds_toArray, List.set_cons_zero, List.set_cons_succ]
      refine wpZ_two (i := 19) (j := 27) (oi := ⟨some 103, .call { callee := .value (.func 121), args := #[.tmp 99, .tmp 102], argTypes := #[57, 3] }, 57, _, _, none⟩) (oj := ⟨some 111, .buildSlice 111 1 #[(0, .tmp 110)], 111, _, _, none⟩) rfl rfl (by kernel_rfl) (fun K hK => ?_) (fun K hK => ?_)
      ·
        go_simp; refine (zeroes_c _ B1 _ c1 cd.ls.length (argsOf t.ps args) (by first | exact ROWA.out | exact ROWB.out _) LBD.out).mono ?_; rintro e w4 ⟨B2, n2, c2, rfl, zr, zg, za⟩; have qk := KEEP1.out _ _ hHeld zg; (try have FX := Lib.hid (FIN.out _ _ _ (locs_B KSD.out zr zg za))); have ZR := Lib.hid zr; have ZG := Lib.hid zg; have ZA := Lib.hid za; clear zr zg za; go_wp2_with fail
        refine hK.out _ _ (fun _ => by (first | exact ⟨M0W, C0W, XW0, XW1⟩ | exact qk2 | exact qk | exact ⟨(World.cell?_alloc_some _ _ _ (Option.isSome_iff_exists.2 ⟨_, hHeld.1⟩)).trans hHeld.1, (World.cell?_alloc_some _ _ _ (Option.isSome_iff_exists.2 ⟨_, hHeld.2.1⟩)).trans hHeld.2.1, (World.cell?_alloc_some _ _ _ (Option.isSome_iff_exists.2 ⟨_, hHeld.2.2.1⟩)).trans hHeld.2.2.1, (World.cell?_alloc_some _ _ _ (Option.isSome_iff_exists.2 ⟨_, hHeld.2.2.2⟩)).trans hHeld.2.2.2⟩)) (fun hh => ?_)
        have hHeld := hh rfl
        clear hK K
        try simp only [Act.put, List.setIfInBounds_toArray, List.set_cons_zero, List.set_cons_succ]
        refine wpZ_one (i := 27) (oi := ⟨some 111, .buildSlice 111 1 #[(0, .tmp 110)], 111, _, _, none⟩) rfl (by kernel_rfl) (fun K hK => ?_)
        go_simp; (try have FX := Lib.hid (FIN.out _ _ _ (locs_A (lb := ⟨(cd.body.length : Int) - 1, t.rs.length, s.c.st.length⟩) KSD.out ZR.out ZG.out ZA.out)))
        refine hK.out _ _ (fun _ => by (first | exact ⟨M0W, C0W, XW0, XW1⟩ | exact qk2 | exact qk | exact ⟨(World.cell?_alloc_some _ _ _ (Option.isSome_iff_exists.2 ⟨_, hHeld.1⟩)).trans hHeld.1, (World.cell?_alloc_some _ _ _ (Option.isSome_iff_exists.2 ⟨_, hHeld.2.1⟩)).trans hHeld.2.1, (World.cell?_alloc_some _ _ _ (Option.isSome_iff_exists.2 ⟨_, hHeld.2.2.1⟩)).trans hHeld.2.2.1, (World.cell?_alloc_some _ _ _ (Option.isSome_iff_exists.2 ⟨_, hHeld.2.2.2⟩)).trans hHeld.2.2.2⟩)) (fun hh => ?_)
        have hHeld := hh rfl
        clear hK K
        try simp only [Act.put, List.setIfInBounds_toArray, List.set_cons_zero, List.set_cons_succ]
        (refine wpZ_take (i := 28) (oi := ⟨some 112, .build 113 #[(0, .tmp 96), (2, .tmp 97), (3, .tmp 98), (4, .tmp 103), (5, .tmp 111)], 113, _, _, none⟩) (v := ?_) rfl (by kernel_rfl) (fun _ _ _ h => h) (by assumption) (Or.inl ⟨by rfl, ?_⟩) ?_; rotate_left 1; · ((intro w hSw; (try dsimp only at hSw); go_split_ands; go_simp) <;> (try with_reducible rfl)))
        try simp only [Act.put, List.setIfInBounds_toArray, List.set_cons_zero, List.set_cons_succ]
        refine wpZ_one (i := 29) (oi := ⟨some 113, .buildSlice 56 1 #[(0, .tmp 112)], 56, _, _, none⟩) rfl (by kernel_rfl) (fun K hK => ?_)
        go_simp
        refine hK.out _ _ (fun _ => by (first | exact ⟨M0W, C0W, XW0, XW1⟩ | exact qk2 | exact qk | exact ⟨(World.cell?_alloc_some _ _ _ (Option.isSome_iff_exists.2 ⟨_, hHeld.1⟩)).trans hHeld.1, (World.cell?_alloc_some _ _ _ (Option.isSome_iff_exists.2 ⟨_, hHeld.2.1⟩)).trans hHeld.2.1, (World.cell?_alloc_some _ _ _ (Option.isSome_iff_exists.2 ⟨_, hHeld.2.2.1⟩)).trans hHeld.2.2.1, (World.cell?_alloc_some _ _ _ (Option.isSome_iff_exists.2 ⟨_, hHeld.2.2.2⟩)).trans hHeld.2.2.2⟩)) (fun hh => ?_)
        have hHeld := hh rfl
        clear hK K
        try simp only [Act.put, List.setIfInBounds_toArray, List.set_cons_zero, List.set_cons_succ]
        refine wpZ_one (i := 30) (oi := ⟨some 114, .call { callee := .builtin .append, args := #[.tmp 94, .tmp 113], argTypes := #[56, 56] }, 56, _, _, none⟩) rfl (by kernel_rfl) (fun K hK => ?_)
        refine step_append_row (by rfl) _ _ _ (by rfl) 113 6 _ 80 Tryz.underlying56 infoFr rfl (by omega) (by omega) (.slice fA s.c.frs.length fc) _ (by rfl) _ 1 1 _ (by first | rfl | (simp [Act.eval]; done)) FX.out.1 FX.out.2.1 (by simp [Value.oneCell']) HBT.out ?_; intro B6 n6 c6 w7 hr6 hg6 ha6; have qk2 := KEEP2.out _ _ hHeld hg6.out; obtain ⟨q1, q2⟩ := FX.out.2.2 _ _ _ _ hr6.out hg6.out ha6.out; have Q1 := Lib.hid q1; clear q1; have qc := qk2.2.1
        refine hK.out _ _ (fun _ => by (first | exact ⟨M0W, C0W, XW0, XW1⟩ | exact qk2 | exact qk | exact ⟨(World.cell?_alloc_some _ _ _ (Option.isSome_iff_exists.2 ⟨_, hHeld.1⟩)).trans hHeld.1, (World.cell?_alloc_some _ _ _ (Option.isSome_iff_exists.2 ⟨_, hHeld.2.1⟩)).trans hHeld.2.1, (World.cell?_alloc_some _ _ _ (Option.isSome_iff_exists.2 ⟨_, hHeld.2.2.1⟩)).trans hHeld.2.2.1, (World.cell?_alloc_some _ _ _ (Option.isSome_iff_exists.2 ⟨_, hHeld.2.2.2⟩)).trans hHeld.2.2.2⟩)) (fun hh => ?_)
        have hHeld := hh rfl
        clear hK K
        try simp only [Act.put, List.setIfInBounds_toArray, List.set_cons_zero, List.set_cons_succ]
        refine wpZ_one (i := 31) (oi := ⟨some 115, .nilCheck (.tmp 87), 0, _, _, none⟩) rfl (by kernel_rfl) (fun K hK => ?_)
        go_simp
        refine hK.out _ _ (fun h => by simp at h) (fun _ => ?_)
        clear hK K
        try simp only [Act.put, List.setIfInBounds_toArray, List.set_cons_zero, List.set_cons_succ]
        refine wpZ_one (i := 32) (oi := ⟨some 116, .fieldAddr 59 (.tmp 115) 0, 0, _, _, none⟩) rfl (by kernel_rfl) (fun K hK => ?_)
        go_simp
        refine hK.out _ _ (fun h => by simp at h) (fun _ => ?_)
        clear hK K
        try simp only [Act.put, List.setIfInBounds_toArray, List.set_cons_zero, List.set_cons_succ]
        refine wpZ_one (i := 33) (oi := ⟨none, .store 56 (.tmp 116) (.tmp 114), 0, _, _, none⟩) rfl (by kernel_rfl) (fun K hK => ?_)
        go_simp
        refine hK.out _ _ (fun h => by simp at h) (fun _ => ?_)
        clear hK K
        try simp only [Act.put, List.setIfInBounds_toArray, List.set_cons_zero, List.set_cons_succ]
        refine wpZ_done (by kernel_rfl) ?_ _
        go_wp2; go_end0; exact ⟨rfl, Q1.out⟩
      ·
        go_simp; (try have FX := Lib.hid (FIN.out _ _ _ (locs_A (lb := ⟨(cd.body.length : Int) - 1, t.rs.length, s.c.st.length⟩) KSD.out ZR.out ZG.out ZA.out)))
        refine hK.out _ _ (fun _ => by (first | exact ⟨M0W, C0W, XW0, XW1⟩ | exact qk2 | exact qk | exact ⟨(World.cell?_alloc_some _ _ _ (Option.isSome_iff_exists.2 ⟨_, hHeld.1⟩)).trans hHeld.1, (World.cell?_alloc_some _ _ _ (Option.isSome_iff_exists.2 ⟨_, hHeld.2.1⟩)).trans hHeld.2.1, (World.cell?_alloc_some _ _ _ (Option.isSome_iff_exists.2 ⟨_, hHeld.2.2.1⟩)).trans hHeld.2.2.1, (World.cell?_alloc_some _ _ _ (Option.isSome_iff_exists.2 ⟨_, hHeld.2.2.2⟩)).trans hHeld.2.2.2⟩)) (fun hh => ?_)
        have hHeld := hh rfl
        clear hK K
        try simp only [Act.put, List.setIfInBounds_toArray, List.set_cons_zero, List.set_cons_succ]
        refine wpZ_one (i := 19) (oi := ⟨some 103, .call { callee := .value (.func 121), args := #[.tmp 99, .tmp 102], argTypes := #[57, 3] }, 57, _, _, none⟩) rfl (by kernel_rfl) (fun K hK => ?_)
        go_simp; refine (zeroes_c _ B1 _ c1 cd.ls.length (argsOf t.ps args) (by first | exact ROWA.out | exact ROWB.out _) LBD.out).mono ?_; rintro e w4 ⟨B2, n2, c2, rfl, zr, zg, za⟩; have qk := KEEP1.out _ _ hHeld zg; (try have FX := Lib.hid (FIN.out _ _ _ (locs_B KSD.out zr zg za))); have ZR := Lib.hid zr; have ZG := Lib.hid zg; have ZA := Lib.hid za; clear zr zg za; go_wp2_with fail
        refine hK.out _ _ (fun _ => by (first | exact ⟨M0W, C0W, XW0, XW1⟩ | exact qk2 | exact qk | exact ⟨(World.cell?_alloc_some _ _ _ (Option.isSome_iff_exists.2 ⟨_, hHeld.1⟩)).trans hHeld.1, (World.cell?_alloc_some _ _ _ (Option.isSome_iff_exists.2 ⟨_, hHeld.2.1⟩)).trans hHeld.2.1, (World.cell?_alloc_some _ _ _ (Option.isSome_iff_exists.2 ⟨_, hHeld.2.2.1⟩)).trans hHeld.2.2.1, (World.cell?_alloc_some _ _ _ (Option.isSome_iff_exists.2 ⟨_, hHeld.2.2.2⟩)).trans hHeld.2.2.2⟩)) (fun hh => ?_)
        have hHeld := hh rfl
        clear hK K
        try simp only [Act.put, List.setIfInBounds_toArray, List.set_cons_zero, List.set_cons_succ]
        (refine wpZ_take (i := 28) (oi := ⟨some 112, .build 113 #[(0, .tmp 96), (2, .tmp 97), (3, .tmp 98), (4, .tmp 103), (5, .tmp 111)], 113, _, _, none⟩) (v := ?_) rfl (by kernel_rfl) (fun _ _ _ h => h) (by assumption) (Or.inl ⟨by rfl, ?_⟩) ?_; rotate_left 1; · ((intro w hSw; (try dsimp only at hSw); go_split_ands; go_simp) <;> (try with_reducible rfl)))
        try simp only [Act.put, List.setIfInBounds_toArray, List.set_cons_zero, List.set_cons_succ]
        refine wpZ_one (i := 29) (oi := ⟨some 113, .buildSlice 56 1 #[(0, .tmp 112)], 56, _, _, none⟩) rfl (by kernel_rfl) (fun K hK => ?_)
        go_simp
        refine hK.out _ _ (fun _ => by (first | exact ⟨M0W, C0W, XW0, XW1⟩ | exact qk2 | exact qk | exact ⟨(World.cell?_alloc_some _ _ _ (Option.isSome_iff_exists.2 ⟨_, hHeld.1⟩)).trans hHeld.1, (World.cell?_alloc_some _ _ _ (Option.isSome_iff_exists.2 ⟨_, hHeld.2.1⟩)).trans hHeld.2.1, (World.cell?_alloc_some _ _ _ (Option.isSome_iff_exists.2 ⟨_, hHeld.2.2.1⟩)).trans hHeld.2.2.1, (World.cell?_alloc_some _ _ _ (Option.isSome_iff_exists.2 ⟨_, hHeld.2.2.2⟩)).trans hHeld.2.2.2⟩)) (fun hh => ?_)
        have hHeld := hh rfl
        clear hK K
        try simp only [Act.put, List.setIfInBounds_toArray, List.set_cons_zero, List.set_cons_succ]
        refine wpZ_one (i := 30) (oi := ⟨some 114, .call { callee := .builtin .append, args := #[.tmp 94, .tmp 113], argTypes := #[56, 56] }, 56, _, _, none⟩) rfl (by kernel_rfl) (fun K hK => ?_)
        refine step_append_row (by rfl) _ _ _ (by rfl) 113 6 _ 80 Tryz.underlying56 infoFr rfl (by omega) (by omega) (.slice fA s.c.frs.length fc) _ (by rfl) _ 1 1 _ (by first | rfl | (simp [Act.eval]; done)) FX.out.1 FX.out.2.1 (by simp [Value.oneCell']) HBT.out ?_; intro B6 n6 c6 w7 hr6 hg6 ha6; have qk2 := KEEP2.out _ _ hHeld hg6.out; obtain ⟨q1, q2⟩ := FX.out.2.2 _ _ _ _ hr6.out hg6.out ha6.out; have Q1 := Lib.hid q1; clear q1; have qc := qk2.2.1
        refine hK.out _ _ (fun _ => by (first | exact ⟨M0W, C0W, XW0, XW1⟩ | exact qk2 | exact qk | exact ⟨(World.cell?_alloc_some _ _ _ (Option.isSome_iff_exists.2 ⟨_, hHeld.1⟩)).trans hHeld.1, (World.cell?_alloc_some _ _ _ (Option.isSome_iff_exists.2 ⟨_, hHeld.2.1⟩)).trans hHeld.2.1, (World.cell?_alloc_some _ _ _ (Option.isSome_iff_exists.2 ⟨_, hHeld.2.2.1⟩)).trans hHeld.2.2.1, (World.cell?_alloc_some _ _ _ (Option.isSome_iff_exists.2 ⟨_, hHeld.2.2.2⟩)).trans hHeld.2.2.2⟩)) (fun hh => ?_)
        have hHeld := hh rfl
        clear hK K
        try simp only [Act.put, List.setIfInBounds_toArray, List.set_cons_zero, List.set_cons_succ]
        refine wpZ_one (i := 31) (oi := ⟨some 115, .nilCheck (.tmp 87), 0, _, _, none⟩) rfl (by kernel_rfl) (fun K hK => ?_)
        go_simp
        refine hK.out _ _ (fun h => by simp at h) (fun _ => ?_)
        clear hK K
        try simp only [Act.put, List.setIfInBounds_toArray, List.set_cons_zero, List.set_cons_succ]
        refine wpZ_one (i := 32) (oi := ⟨some 116, .fieldAddr 59 (.tmp 115) 0, 0, _, _, none⟩) rfl (by kernel_rfl) (fun K hK => ?_)
        go_simp
        refine hK.out _ _ (fun h => by simp at h) (fun _ => ?_)
        clear hK K
        try simp only [Act.put, List.setIfInBounds_toArray, List.set_cons_zero, List.set_cons_succ]
        refine wpZ_one (i := 33) (oi := ⟨none, .store 56 (.tmp 116) (.tmp 114), 0, _, _, none⟩) rfl (by kernel_rfl) (fun K hK => ?_)
        go_simp
        refine hK.out _ _ (fun h => by simp at h) (fun _ => ?_)
        clear hK K
        try simp only [Act.put, List.setIfInBounds_toArray, List.set_cons_zero, List.set_cons_succ]
        refine wpZ_done (by kernel_rfl) ?_ _
        go_wp2; go_end0; exact ⟨rfl, Q1.out⟩
end Go.Proofs.YtmnebeikafigjaaGreatDoor
/- step's machine: opens in one, calls. -/
set_option linter.unusedVariables false
namespace Go.Proofs.YtmnebeikafigjaaGreatDoor
open Go.RowKit Go.Sep Go.St
variable {w : World} {S : Nat → Prop} {L : Key → Option Ck} {u : Nat} {P : Ptrs} {M : Mo} {s : Ms}
def U64 (l : List Int) : Prop := ∀ x ∈ l, 0 ≤ x ∧ x < 18446744073709551616
/-- opens, told by openC. -/
theorem opens_c (h : Md w S L u P M s) (f : Nat) (hf : f < 4294967296) (A : Option Addr) (m c : Nat) (args : List Int) (hargs : RdL w S 1 (num1 .u64) (.slice A m c) args) (hw : U64 args) (hb : s.c.st.length ≤ 1000000000) :
    Calls Tryz.prog 71 #[.pointer (some ⟨P.mB, 0, none⟩), .int .u32 (f : Int), .slice A m c] w fun e w' => e = .returned (.tuple #[]) ∧ To w S L u P M w' { s with c := openC M s.i.blocks.length s.c f args } := by
  unfold openC
  by_cases hn : 32 ≤ s.c.frs.length
  · rw [if_pos hn]
    exact opens_lim h f _ hn
  rw [if_neg hn]
  cases ht : functionM M s.i.blocks.length (f : Int) with
  | none => exact opens_no h f hf _ (by omega) ht
  | some t =>
    obtain ⟨x, _, _, hc, _⟩ := functionM_some ht
    obtain ⟨cd, hcd⟩ : ∃ cd, M.codes[f]? = some cd := ⟨_, List.getElem?_eq_getElem hc⟩
    rw [Int.toNat_natCast, hcd]
    simp only
    by_cases hm : args.length = t.ps.length
    · rw [if_neg (by simp [hm])]
      exact opens_yes h f hf A m c args hargs (by omega) t ht cd hcd hm hw hb
    · rw [if_pos hm]
      exact opens_arg h f hf A m c (by omega) t ht (by rw [hargs.len.1]; exact hm)
theorem popsC_some {C : Cf} {n : Int} {l : List Int} {C1 : Cf} (h : popsC C n = some (l, C1)) : 0 ≤ n ∧ n.toNat ≤ C.st.length ∧ l = C.st.drop (C.st.length - n.toNat) ∧ C1 = { C with st := C.st.take (C.st.length - n.toNat) } := by
  unfold popsC at h
  split at h
  · cases h
  · injection h with h
    injection h with h1 h2
    exact ⟨by omega, by omega, h1.symm, h2.symm⟩
/-- pops, told by popsC. -/
def PopsR (w : World) (S : Nat → Prop) (L : Key → Option Ck) (u : Nat) (P : Ptrs) (M : Mo) (s : Ms) (r : Option (List Int × Cf)) (e : Ending) (w' : World) : Prop := match r with
  | none => e = .returned (.tuple #[.slice none 0 0, .bool false]) ∧ To w S L u P M w' { s with c := endsC 17 }
  | some (l, C1) => Popped w S L u P M { s with c := C1 } l e w'
theorem pops_c (h : Md w S L u P M s) (n : Int) (hn2 : -4611686018427387904 < n ∧ n < 4611686018427387904) (hb : s.c.st.length ≤ 1000000000) (r : Option (List Int × Cf)) (hr : popsC s.c n = r) :
    Calls Tryz.prog 77 #[.pointer (some ⟨P.mB, 0, none⟩), .int .i64 n] w (PopsR w S L u P M s r) := by
  subst hr
  cases hr : popsC s.c n with
  | none =>
    refine pops_no h n ?_ hn2 hb
    unfold popsC at hr
    split at hr
    · assumption
    · cases hr
  | some p =>
    obtain ⟨l, C1⟩ := p
    obtain ⟨h0, h1, rfl, rfl⟩ := popsC_some hr
    exact pops_yes h n _ n.toNat (by omega) (by omega) hb
set_option maxRecDepth 100000 in
set_option maxHeartbeats 1000000 in
theorem calls_c (h : Md w S L u P M s) (f : Nat) (hf : f < 4294967296) (hw : U64 s.c.st) (hb : s.c.st.length ≤ 1000000000) :
    Calls Tryz.prog 79 #[.pointer (some ⟨P.mB, 0, none⟩), .int .u32 (f : Int)] w fun e w' => e = .returned (.tuple #[]) ∧ To w S L u P M w' { s with c := callC M s.i.blocks.length s.c f } := by
  cases ht : functionM M s.i.blocks.length (f : Int) with
  | none =>
    rw [show callC M s.i.blocks.length s.c f = endsC 17 from by unfold callC; simp only [ht]]
    have HF := Lib.hid (function_no h f hf ht)
    have HE := Lib.hid (fun (w' : World) (q : Still w w') => (stuck_yes (h.still q)))
    have HR := Lib.hid (fun (w' : World) (q : Still w w') => (q.ro h.sep.lt))
    clear h hf hw hb ht
    go_enter Tryz.func79, Tryz.ntmps79
    go_wp2_with fail
    refine HF.out.mono ?_
    rintro e w1 ⟨rfl, hst⟩
    have ST := Lib.hid hst
    clear hst
    go_wp2_with fail
    refine (HE.out _ (ST.out.alloc _)).mono ?_
    rintro e w2 ⟨rfl, ht⟩
    have HT := Lib.hid (To.trans (Keep.refl _ _) (HR.out _ (ST.out.alloc _)) (fun _ h => h) ht)
    clear ht
    go_wp2
    exact bodyPost_ret (v := .tuple #[]) (by simp [results, Tryz.results79, go_sem]) rfl ⟨rfl, HT.out⟩
  | some t =>
    have HF := Lib.hid (function_yes h f hf t ht)
    have hps : t.ps.length ≤ 1000 := by
      obtain ⟨x, hx1, hx2, _⟩ := functionM_some ht
      exact (h.wf.ps t (List.mem_of_getElem? hx2)).2.1
    have HP := Lib.hid (fun (w' : World) (q : Still w w') => pops_c (h.still q) (t.ps.length : Int) (by omega) hb _ rfl)
    have HR := Lib.hid (fun (w' : World) (q : Still w w') => (q.ro h.sep.lt))
    cases hp : popsC s.c (t.ps.length : Int) with
    | none =>
      rw [hp] at HP
      rw [show callC M s.i.blocks.length s.c f = endsC 17 from by unfold callC; simp only [ht, hp]]
      clear h hf hw hb ht hps hp
      go_enter Tryz.func79, Tryz.ntmps79
      go_wp2_with fail
      refine HF.out.mono ?_
      rintro e w1 ⟨pA, pc, rA, rc, rfl, _, hst⟩
      have ST := Lib.hid hst
      clear hst
      go_wp2_with (go_at_call 39; (with_reducible refine (stuck_no _ _).mono ?_); rintro e w2 ⟨rfl, rfl⟩)
      refine (HP.out _ (ST.out.alloc _)).mono ?_
      rintro e w2 ⟨rfl, ht⟩
      have HT := Lib.hid (To.trans (Keep.refl _ _) (HR.out _ (ST.out.alloc _)) (fun _ h => h) ht)
      clear ht
      go_wp2
      go_end0
      exact ⟨rfl, HT.out⟩
    | some p =>
      obtain ⟨l, C1⟩ := p
      rw [hp] at HP
      have hlw : U64 l ∧ C1.st.length ≤ 1000000000 := by
        obtain ⟨_, _, rfl, rfl⟩ := popsC_some hp
        exact ⟨fun x hx => hw x (List.mem_of_mem_drop hx), by simp only [List.length_take]; omega⟩
      rw [show callC M s.i.blocks.length s.c f = openC M s.i.blocks.length C1 f l from by unfold callC; simp only [ht, hp]]
      have HLW := Lib.hid (And.intro hlw hf)
      clear h hf hw hb ht hps hp hlw
      go_enter Tryz.func79, Tryz.ntmps79
      go_wp2_with fail
      refine HF.out.mono ?_
      rintro e w1 ⟨pA, pc, rA, rc, rfl, _, hst⟩
      have ST := Lib.hid hst
      clear hst
      go_wp2_with (go_at_call 39; (with_reducible refine (stuck_no _ _).mono ?_); rintro e w2 ⟨rfl, rfl⟩)
      refine (HP.out _ (ST.out.alloc _)).mono ?_
      rintro e w2 ⟨B, n, c, rfl, S2, L2, h2, k2, ro2, hS2, rd2, _⟩
      have HO := Lib.hid (opens_c h2 f HLW.out.2 B n c l rd2 HLW.out.1.1 HLW.out.1.2)
      have HK := Lib.hid (And.intro k2 (And.intro ((HR.out _ (ST.out.alloc _)).trans' ro2) hS2))
      clear h2 k2 ro2 hS2 rd2
      go_wp2_with fail
      refine HO.out.mono ?_
      rintro e w3 ⟨rfl, ht⟩
      have HT := Lib.hid (To.trans HK.out.1 HK.out.2.1 HK.out.2.2 ht)
      clear ht
      go_wp2
      go_end0
      exact ⟨rfl, HT.out⟩
end Go.Proofs.YtmnebeikafigjaaGreatDoor
/- step's machine: branches. -/
set_option linter.unusedVariables false
namespace Go.Proofs.YtmnebeikafigjaaGreatDoor
open Go.RowKit Go.Sep Go.St
variable {w : World} {S : Nat → Prop} {L : Key → Option Ck} {u : Nat} {P : Ptrs} {M : Mo} {s : Ms}
set_option maxRecDepth 100000 in
set_option maxHeartbeats 1000000 in
theorem branches_stuck (h : Md w S L u P M s) {k fB fc : Nat} {f : Fr} {sv vv lv bv : Value} {raws : List (Value × Value)} (hf : Frm w L u P s k f fB fc sv vv raws lv bv) (hk2 : k ≤ 1000000) (ok : FrOk f)
    (n : Nat) (hn : n < 4294967296) (q : Nat) (hq : min n 2147483647 = q) (hlt : f.lab.length < q + 1) :
    Calls Tryz.prog 76 #[.pointer (some ⟨P.mB, 0, none⟩), .int .u32 (n : Int)] w fun e w' => e = .returned (.tuple #[]) ∧ To w S L u P M w' { s with c := endsC 17 } := by
  obtain ⟨A, c, rfl, hmc, hlr⟩ := hf.lab_form h
  have HF := Lib.hid (frame_c h hf hk2)
  have SD : ∀ m, Still w (w.drewN m) := fun m => (Still.refl w).drewN m
  have f5 := hf.cell 5 _ rfl
  have hll := ok.ll
  have HE := Lib.hid (fun n => stuck_yes (h.still (SD n)))
  generalize f.lab.length = m at f5 hmc hll hlt
  have hi1 : IntKind.i64.wrap ((m : Int) - 1) = (m : Int) - 1 := IntWalk.i64_in _ (by omega)
  have hmin : (if (2147483647 : Int) < (n : Int) then 2147483647 else (n : Int)) = (q : Int) := by split <;> omega
  have hi2 : IntKind.i64.wrap ((m : Int) - 1 - (q : Int)) = (m : Int) - 1 - (q : Int) := IntWalk.i64_in _ (by omega)
  have hneg : ((m : Int) - 1 - (q : Int) < 0) = True := eq_true (by omega)
  have hiq : IntKind.i64.wrap (q : Int) = (q : Int) := IntWalk.i64_in _ (by omega)
  clear h hf hk2 ok hlr hmc
  go_enter Tryz.func76, Tryz.ntmps76
  go_wp2_with fail
  refine HF.out.mono ?_
  rintro e w1 ⟨rfl, n1, rfl⟩
  go_wp2_with fail
  refine (HE.out _).mono ?_
  rintro e w2 ⟨rfl, ht⟩
  have HT := Lib.hid ht
  clear ht
  go_wp2
  exact bodyPost_ret (v := .tuple #[]) (by simp [results, Tryz.results76, go_sem]) rfl ⟨rfl, HT.out⟩
set_option maxRecDepth 100000 in
set_option maxHeartbeats 1000000 in
theorem branches_last (h : Md w S L u P M s) {k fB fc : Nat} {f : Fr} {sv vv lv bv : Value} {raws : List (Value × Value)} (hf : Frm w L u P s k f fB fc sv vv raws lv bv) (hk : s.c.frs.length = k + 1) (hk2 : k ≤ 1000000) (ok : FrOk f) (hb : s.c.st.length ≤ 1000000000)
    (n : Nat) (hn : n < 4294967296) (q : Nat) (hq : min n 2147483647 = q) (hlt : f.lab.length = q + 1) :
    Calls Tryz.prog 76 #[.pointer (some ⟨P.mB, 0, none⟩), .int .u32 (n : Int)] w fun e w' => e = .returned (.tuple #[]) ∧ To w S L u P M w' { s with c := leaveC s.c f } := by
  obtain ⟨A, c, rfl, hmc, hlr⟩ := hf.lab_form h
  have HF := Lib.hid (frame_c h hf hk2)
  have SD : ∀ m, Still w (w.drewN m) := fun m => (Still.refl w).drewN m
  have f5 := hf.cell 5 _ rfl
  have hll := ok.ll
  have HE := Lib.hid (fun n => leaves_c (h.still (SD n)) (hf.still (SD n)) hk hk2 ok.ar hb)
  rw [hlt] at f5 hmc
  have hi1 : IntKind.i64.wrap (((q + 1 : Nat) : Int) - 1) = (q : Int) := by rw [IntWalk.i64_in _ (by omega)]; omega
  have hmin : (if (2147483647 : Int) < (n : Int) then 2147483647 else (n : Int)) = (q : Int) := by split <;> omega
  have hi2 : IntKind.i64.wrap ((q : Int) - (q : Int)) = 0 := by rw [IntWalk.i64_in _ (by omega)]; omega
  have hiq : IntKind.i64.wrap (q : Int) = (q : Int) := IntWalk.i64_in _ (by omega)
  generalize q + 1 = m at f5 hmc hi1
  clear h hf hk2 ok hlr hmc hk hb hlt SD hll
  go_enter Tryz.func76, Tryz.ntmps76
  go_wp2_with fail
  refine HF.out.mono ?_
  rintro e w1 ⟨rfl, n1, rfl⟩
  go_wp2_with (go_at_call 39; (with_reducible refine (stuck_no _ _).mono ?_); rintro e w2 ⟨rfl, rfl⟩)
  refine (HE.out _).mono ?_
  rintro e w2 ⟨rfl, ht⟩
  have HT := Lib.hid ht
  clear ht
  go_wp2
  exact bodyPost_ret (v := .tuple #[]) (by simp [results, Tryz.results76, go_sem]) rfl ⟨rfl, HT.out⟩
theorem To.undrew {w' : World} {n : Nat} (h : To (w.drewN n) S L u P M w' s) : To w S L u P M w' s := by
  obtain ⟨S', L', a, b, c, d⟩ := h
  exact ⟨S', L', a, b, c, d⟩
theorem Md.hold {w1 : World} (h : Md w S L u P M s) (q : Still w w1) (b : Nat) (hb : w.heap.size ≤ b) (hb1 : b < w1.heap.size) : Md w1 (fun x => S x ∨ x = b) L u P M s := by
  refine h.recfg ((h.sep.still q.1.1 q.2).more (fun k c b' e1 e2 => ?_) ?_) (q.ro h.sep.lt) (fun b h => .inl h) h.cfg (fun _ _ => rfl)
  · rintro (h1 | rfl)
    · exact h.sep.ro k c b' e1 e2 h1
    · have := Ck.lt (h.sep.holds k c e1) e2
      omega
  · rintro b' (h1 | rfl)
    · have := h.sep.lt b' h1
      have := q.1.1
      omega
    · exact hb1
set_option maxRecDepth 100000 in
set_option maxHeartbeats 1000000 in
theorem branches_to (h : Md w S L u P M s) {k fB fc : Nat} {f : Fr} {sv vv lv bv : Value} {raws : List (Value × Value)} (hf : Frm w L u P s k f fB fc sv vv raws lv bv) (hk : s.c.frs.length = k + 1) (hk2 : k ≤ 1000000) (ok : FrOk f) (cd : Cd) (hcd : M.codes[f.fn.toNat]? = some cd) (hb : s.c.st.length ≤ 1000000000)
    (n : Nat) (hn : n < 4294967296) (q : Nat) (hq : min n 2147483647 = q) (j : Nat) (hlt : f.lab.length = q + 1 + j) (hj : 0 < j) (x : Lb) (hx : f.lab[j]? = some x) :
    Calls Tryz.prog 76 #[.pointer (some ⟨P.mB, 0, none⟩), .int .u32 (n : Int)] w fun e w' => e = .returned (.tuple #[]) ∧ To w S L u P M w' { s with c := branchC M s.c f n } := by
  have hbr : branchC M s.c f n = match landsC s.c x.ar x.ht with
    | none => endsC 17
    | some C1 => setTop C1 { f with at_ := x.to + 1, lab := f.lab.take (j + if opM M f.fn x.to = 3 then 1 else 0) } := by
    unfold branchC
    have e : min (n : Int) 2147483647 = (q : Int) := by omega
    rw [e, if_neg (by omega), if_neg (by omega), Int.toNat_natCast, show f.lab.length - 1 - q = j by omega, hx]
    rfl
  rw [hbr]
  obtain ⟨A, c, rfl, hmc, hlr⟩ := hf.lab_form h
  obtain ⟨lb, rfl, l0, l1, l2⟩ := lab_at hlr j x hx
  obtain ⟨hto, har⟩ := ok.lab x (List.mem_of_getElem? hx)
  have HF := Lib.hid (frame_c h hf hk2)
  have SD : ∀ m, Still w (w.drewN m) := fun m => (Still.refl w).drewN m
  have f5 := hf.cell 5 _ rfl
  have hll := ok.ll
  rw [hlt] at f5 hmc hll
  have hi1 : IntKind.i64.wrap (((q + 1 + j : Nat) : Int) - 1) = ((q + 1 + j : Nat) : Int) - 1 := IntWalk.i64_in _ (by omega)
  have hmin : (if (2147483647 : Int) < (n : Int) then 2147483647 else (n : Int)) = (q : Int) := by split <;> omega
  have hi2 : IntKind.i64.wrap (((q + 1 + j : Nat) : Int) - 1 - (q : Int)) = (j : Int) := by rw [IntWalk.i64_in _ (by omega)]; omega
  have hiq : IntKind.i64.wrap (q : Int) = (q : Int) := IntWalk.i64_in _ (by omega)
  have d0 : ((j : Int) == 0) = false := beq_eq_false_iff_ne.2 (by omega)
  have d1 : decide ((j : Int) < 0) = false := decide_eq_false (by omega)
  have e0 : (0 : Int) ≤ (j : Int) := by omega
  have e1 : (j : Int) < ((q + 1 + j : Nat) : Int) := by omega
  cases hr : landsC s.c x.ar x.ht with
  | none =>
    have HLA := Lib.hid (fun w' (y : Still w w') => lands_r (h.still y) x.ar x.ht har hb _ hr)
    have HR := Lib.hid (fun (w' : World) (q : Still w w') => (q.ro h.sep.lt))
    simp only
    have HO := Lib.hid hmc
    generalize q + 1 + j = m at f5 hi1 hi2 e1 HO
    clear h hf hk hk2 ok hcd hb hn hq hlt hj hx hbr hlr hto har SD hll hr hmc
    go_enter Tryz.func76, Tryz.ntmps76
    go_wp2_with fail
    refine HF.out.mono ?_
    rintro e w1 ⟨rfl, n1, rfl⟩
    have Q1 : Still w (w.drewN n1) := (Still.refl w).drewN n1
    replace f5 := Q1.cell f5
    replace l0 := Q1.cell l0
    replace l1 := Q1.cell l1
    replace l2 := Q1.cell l2
    have Q := Lib.hid Q1
    clear Q1
    generalize w.drewN n1 = w1 at *
    have b1 := World.block_lt_of_cell? w1 _ f5
    have b2 := World.block_lt_of_cell? w1 _ l0
    go_wp2_with (go_at_call 39; (with_reducible refine (stuck_no _ _).mono ?_); rintro e w2 ⟨rfl, rfl⟩)
    refine (HLA.out _ (Q.out.alloc _)).mono ?_
    rintro e w2 ⟨rfl, ht⟩
    have HT := Lib.hid (To.trans (Keep.refl _ _) (HR.out _ (Q.out.alloc _)) (fun _ h => h) ht)
    clear ht
    go_wp2
    exact bodyPost_ret (v := .tuple #[]) (by simp [results, Tryz.results76, go_sem]) rfl ⟨rfl, HT.out⟩
  | some C1 =>
    have HLA := Lib.hid (fun (w' : World) (b : Nat) (y : Still w w') (y1 : w.heap.size ≤ b) (y2 : b < w'.heap.size) => lands_r (h.hold y b y1 y2) x.ar x.ht har hb _ hr)
    have HR := Lib.hid (fun (w' : World) (q : Still w w') => (q.ro h.sep.lt))
    simp only
    generalize hz : (if opM M f.fn x.to = 3 then 1 else 0) = z
    have HZ := Lib.hid hz
    clear hz
    have HO := Lib.hid (And.intro hmc (And.intro hk (And.intro hk2 (And.intro hcd (And.intro ok.fn (And.intro (landsC_frs hr) (And.intro hto (And.intro hf hlt))))))))
    generalize hm : q + 1 + j = m at f5 hi1 hi2 e1 HO
    have HJ := Lib.hid (show j < m by omega)
    have HLL := Lib.hid (show m ≤ 1000000000 by omega)
    clear h hf hk hk2 ok hcd hb hn hq hlt hj hx hbr hlr hto har SD hll hr hmc hm
    go_enter Tryz.func76, Tryz.ntmps76
    go_wp2_with fail
    refine HF.out.mono ?_
    rintro e w1 ⟨rfl, n1, rfl⟩
    have Q1 : Still w (w.drewN n1) := (Still.refl w).drewN n1
    replace f5 := Q1.cell f5
    replace l0 := Q1.cell l0
    replace l1 := Q1.cell l1
    replace l2 := Q1.cell l2
    have Q := Lib.hid Q1
    clear Q1
    generalize w.drewN n1 = w1 at *
    have b1 := World.block_lt_of_cell? w1 _ f5
    have b2 := World.block_lt_of_cell? w1 _ l0
    go_wp2_with (go_at_call 39; (with_reducible refine (stuck_no _ _).mono ?_); rintro e w2 ⟨rfl, rfl⟩)
    refine (HLA.out _ w1.heap.size (Q.out.alloc _) Q.out.1.1 (by simp)).mono ?_
    rintro e w2 ⟨rfl, S2, L2, h2, k2, ro2, hS2, sf2⟩
    obtain ⟨hmc, hk, hk2, hcd, hfn, hfrs, hto, hf, hlt⟩ := HO.out
    have t0 : w2.cell? ⟨w1.heap.size, 0, none⟩ = some (.int .i64 x.to) := (World.cell?_of_block (a := ⟨w1.heap.size, 0, none⟩) (ro2.2 _ (.inr rfl))).trans (by simp)
    obtain ⟨sv2, vv2, raws2, hf2⟩ := Frm.same hf h2 sf2 hfrs hk
    have z1 := hf2.frozen (k * 6 + 1)
    have f1 := hf2.cell 1 _ rfl
    have hi3 : IntKind.i64.wrap (x.to + 1) = x.to + 1 := IntWalk.i64_in _ (by omega)
    have hk' : C1.frs.length = k + 1 := by rw [hfrs]; exact hk
    obtain ⟨S3, L3, raws3, h3, k3, ro3, hS3, hf3⟩ := frame_numF h2 hf2 hk' (x.to + 1)
    have HOP := Lib.hid (op_c h3 hf3 hk2 f.fn.toNat (by show f.fn = _; omega) cd hcd x.to)
    have q5 := hf3.cell 5 _ rfl
    rw [hlt] at q5
    have y5 := hf3.frozen (k * 6 + 5)
    have ro1 := HR.out _ (Q.out.alloc (.cells #[.int .i64 x.to, .int .i64 x.ar, .int .i64 x.ht] 146))
    have hs3 := fun b hb => hS3 b (hS2 b (.inl hb))
    have hjm := HJ.out
    have hk3 : ({ s with c := setTop C1 { f with at_ := x.to + 1 } } : Ms).c.frs.length = k + 1 := by simp [setTop, hk']
    have ro3' := ro1.trans (ro2.trans ro3 hS2) (fun _ h => .inl h)
    have KK := k2.trans k3
    have FIN := Lib.hid (fun (n4 i : Nat) (hi : i ≤ f.lab.length) => To.trans KK ro3' hs3 (To.undrew (labs_cut (h3.drewN n4) (hf3.still ((Still.refl _).drewN n4)) hk3 i hi rfl)))
    have HM := Lib.hid hlt
    have HMC := Lib.hid hmc
    have HFN := Lib.hid hfn
    clear hmc hk hk2 hcd hfn hfrs hto hf hlt h2 k2 ro2 hS2 sf2 hf2 h3 k3 ro3 hS3 hf3 HLA HR HO l0 l1 l2 f5 hi1 hi2 hmin hiq HF Q b2 hs3 ro1 hk' hk3 ro3' KK hjm
    generalize w1.heap.size = tB at *
    go_wp2_with fail
    generalize w2.setCell ⟨fB, k * 6 + 1, none⟩ (.int .i64 (x.to + 1)) = w3 at *
    refine HOP.out.mono ?_
    rintro e w4 ⟨rfl, n4, rfl⟩
    have e : ((f.fn.toNat : Nat) : Int) = f.fn := by have := HFN.out; omega
    rw [e]
    clear e
    obtain ⟨i0, hi, _, hz1, _⟩ := info_parts infoLb
    have hss : ∀ l, setTop (setTop C1 { f with at_ := x.to + 1 }) { f with at_ := x.to + 1, lab := l } = setTop C1 { f with at_ := x.to + 1, lab := l } := fun l => by simp [setTop]
    have HSS := Lib.hid hss
    by_cases h3 : opM M f.fn x.to = 3
    · have d3 : (opM M f.fn x.to == 3) = true := by rw [h3]; rfl
      obtain rfl : 1 = z := by rw [← HZ.out, if_pos h3]
      have hcut := slice_to (P := Tryz.prog) (t := 111) Tryz.underlying111 hi (some ⟨lb, 0, none⟩) m c (j + 1) HJ.out HMC.out
      have hi4 : IntKind.i64.wrap ((j : Int) + 1) = ((j + 1 : Nat) : Int) := by rw [IntWalk.i64_in _ (by have := HLL.out; have := HJ.out; omega)]; omega
      have F2 := FIN.out n4 (j + 1) (by rw [HM.out]; exact HJ.out)
      rw [HSS.out] at F2
      have FF := Lib.hid F2
      clear F2 hss hi hz1 h3 t0 z1 f1 hi3 HZ HJ
      generalize hN : (j + 1 : Nat) = N at *
      have HN := Lib.hid hN
      clear hN
      go_wp2_with fail
      go_end0
      have hN := HN.out
      subst hN
      exact ⟨rfl, FF.out⟩
    · have d3 : (opM M f.fn x.to == 3) = false := beq_eq_false_iff_ne.2 h3
      obtain rfl : 0 = z := by rw [← HZ.out, if_neg h3]
      have hcut := slice_to (P := Tryz.prog) (t := 111) Tryz.underlying111 hi (some ⟨lb, 0, none⟩) m c j (by have := HJ.out; omega) HMC.out
      have F2 := FIN.out n4 j (by rw [HM.out]; have := HJ.out; omega)
      rw [HSS.out] at F2
      have FF := Lib.hid F2
      clear F2 hss hi hz1 h3 t0 z1 f1 hi3 HZ
      go_wp2_with fail
      go_end0
      exact ⟨rfl, FF.out⟩
/-- branches, told by branchC. -/
theorem branches_c (h : Md w S L u P M s) {k fB fc : Nat} {f : Fr} {sv vv lv bv : Value} {raws : List (Value × Value)} (hf : Frm w L u P s k f fB fc sv vv raws lv bv) (hk : s.c.frs.length = k + 1) (hk2 : k ≤ 1000000) (ok : FrOk f) (cd : Cd) (hcd : M.codes[f.fn.toNat]? = some cd) (hb : s.c.st.length ≤ 1000000000)
    (n : Nat) (hn : n < 4294967296) :
    Calls Tryz.prog 76 #[.pointer (some ⟨P.mB, 0, none⟩), .int .u32 (n : Int)] w fun e w' => e = .returned (.tuple #[]) ∧ To w S L u P M w' { s with c := branchC M s.c f n } := by
  have e : min (n : Int) 2147483647 = ((min n 2147483647 : Nat) : Int) := by omega
  rcases Nat.lt_trichotomy f.lab.length (min n 2147483647 + 1) with h0 | h0 | h0
  · rw [show branchC M s.c f n = endsC 17 from by unfold branchC; rw [e, if_pos (by omega)]]
    exact branches_stuck h hf hk2 ok n hn _ rfl h0
  · rw [show branchC M s.c f n = leaveC s.c f from by unfold branchC; rw [e, if_neg (by omega), if_pos (by omega)]]
    exact branches_last h hf hk hk2 ok hb n hn _ rfl h0
  · obtain ⟨j, hj⟩ : ∃ j, f.lab.length = min n 2147483647 + 1 + j := ⟨f.lab.length - (min n 2147483647 + 1), by omega⟩
    obtain ⟨x, hx⟩ : ∃ x, f.lab[j]? = some x := ⟨_, List.getElem?_eq_getElem (by omega)⟩
    exact branches_to h hf hk hk2 ok cd hcd hb n hn _ rfl j hj (by omega) x hx
end Go.Proofs.YtmnebeikafigjaaGreatDoor
