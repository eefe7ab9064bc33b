/- slices.Grow, slices.Concat of two, for lists of numbers: what they answer. -/
import Derived.Test.YtfjnhdbbjggkmaaGrowD
import Derived.Test.YtfjnhdbbjggkmaaSepZ
import Derived.LoopTactic
set_option linter.unusedVariables false
set_option linter.unusedSimpArgs false
namespace Go.Proofs.Ytfjnhdbbjggkmaa.Mem
open Go.RowKit Go.Sep Go.Proofs.YtfjnhdbbjggkmaaW.PrintWords Go.Proofs.YtfjnhdbbjggkmaaW.PrintLast Go.Proofs.YtfjnhdbbjggkmaaW.PrintMore Go.Proofs.Ytfjnhdbbjggkmaa.PTableAll
theorem infoU64 : (Try.prog.info? 23).map (fun i => (i.zero, i.size, i.bytes)) = some (some (.int .u64 0), 1, 8) := by kernel_rfl
section
variable {P : Program} {w : World} {ops : Array Oper} {rest : List Oper} {o : Oper} {a : Act} {K : Act → World → Prop} {Q : Exit → Act → World → Prop} {E : Prop}
theorem wp_append_row (s x : Operand) (t : TypeId)
    (ho : o.op = .call { callee := .builtin .append, args := #[s, x], argTypes := #[t, t] }) (e sz : Nat) (z : Value) (bytes : Nat) (ht : P.underlying t = some (.slice e))
    (hinfo : (P.info? e).map (fun i => (i.zero, i.size, i.bytes)) = some (some z, sz, bytes)) (hzs : z.cells.size = sz) (hsz : 0 < sz) (hb : 0 < bytes)
    (v : Value) (xs : List Value) (hs : a.eval s = v) (A : Option Addr) (m c : Nat) (ys : List Value) (hx : a.eval x = .slice A m c)
    (h : Row w e sz v xs) (hy : Rd w sz A m ys) (h1 : ∀ u ∈ ys, u.oneCell' = true) (hbytes : (xs.length + ys.length) * bytes ≤ 140737488355328)
    (hK : ∀ B n c w', Hid (Row w' e sz (.slice B n c) (xs ++ ys)) → Hid (w.grownBy w' (rowBlock v)) → Hid (rowBlock (.slice B n c) = rowBlock v ∨ ∃ b, rowBlock (.slice B n c) = some b ∧ w.heap.size ≤ b) → K (a.put o.dst (.slice B n c)) w') :
    Oper.wp P o a w K Q := by
  obtain ⟨v', w', hr, h2, h3, h4⟩ := h.append (P := P) t o.type z bytes ht hinfo hzs hsz A m c ys hy h1 hb hbytes
  unfold Oper.wp execOp
  simp only [ho, resolve, invoke, builtin, Sem.run_bind, Sem.run_pure, Result.andThen_ok, List.map_toArray, List.map_cons, List.map_nil, hs, hx, hr]
  obtain ⟨B, n, cc, rfl, _⟩ := id h2
  exact hK B n cc w' (Lib.hid h2) (Lib.hid h3) (Lib.hid h4)
theorem wpList_append_row (hgd : o.guard = none) (s x : Operand) (t : TypeId)
    (ho : o.op = .call { callee := .builtin .append, args := #[s, x], argTypes := #[t, t] }) (e sz : Nat) (z : Value) (bytes : Nat) (ht : P.underlying t = some (.slice e))
    (hinfo : (P.info? e).map (fun i => (i.zero, i.size, i.bytes)) = some (some z, sz, bytes)) (hzs : z.cells.size = sz) (hsz : 0 < sz) (hb : 0 < bytes)
    (v : Value) (xs : List Value) (hs : a.eval s = v) (A : Option Addr) (m c : Nat) (ys : List Value) (hx : a.eval x = .slice A m c)
    (h : Row w e sz v xs) (hy : Rd w sz A m ys) (h1 : ∀ u ∈ ys, u.oneCell' = true) (hbytes : (xs.length + ys.length) * bytes ≤ 140737488355328)
    (hK : ∀ B n c w', Hid (Row w' e sz (.slice B n c) (xs ++ ys)) → Hid (w.grownBy w' (rowBlock v)) → Hid (rowBlock (.slice B n c) = rowBlock v ∨ ∃ b, rowBlock (.slice B n c) = some b ∧ w.heap.size ≤ b) → wpList P ops Q rest (a.put o.dst (.slice B n c)) w') :
    wpList P ops Q (o :: rest) a w :=
  wpList_plain hgd fun _ hK' => wp_append_row s x t ho e sz z bytes ht hinfo hzs hsz hb v xs hs A m c ys hx h hy h1 hbytes fun B n c w' a b c' => hK' _ _ (hK B n c w' a b c')
theorem wpList_appendZ (hgd : o.guard = none) (s x : Operand) (t ti : TypeId)
    (ho : o.op = .call { callee := .builtin .append, args := #[s, x], argTypes := #[t, ti] }) (e : Nat) (ki : IntKind) (z : Value) (bytes : Nat) (ht : P.underlying t = some (.slice e)) (hti : P.underlying ti = some (.int ki))
    (hinfo : (P.info? e).map (fun i => (i.zero, i.size, i.bytes)) = some (some z, 1, bytes)) (hz1 : z.cells = #[z]) (hzo : z.oneCell' = true) (hb : 0 < bytes)
    (v : Value) (xs : List Value) (hs : a.eval s = v) (n : Nat) (hx : a.eval x = .int .i64 (n : Int)) (h : Row w e 1 v xs) (hbytes : (xs.length + n) * bytes ≤ 140737488355328)
    (hK : ∀ B m c w', Hid (Row w' e 1 (.slice B m c) (xs ++ List.replicate n z)) → Hid (w.grownBy w' (rowBlock v)) → Hid (rowBlock (.slice B m c) = rowBlock v ∨ ∃ b, rowBlock (.slice B m c) = some b ∧ w.heap.size ≤ b) → wpList P ops Q rest (a.put o.dst (.slice B m c)) w') :
    wpList P ops Q (o :: rest) a w := by
  refine wpList_plain hgd fun K hK' => ?_
  obtain ⟨v', w', hr, h2, h3, h4⟩ := h.appendZ (P := P) t ti o.type ki z bytes ht hti hinfo hz1 hzo hb n hbytes
  unfold Oper.wp execOp
  simp only [ho, resolve, invoke, builtin, Sem.run_bind, Sem.run_pure, Result.andThen_ok, List.map_toArray, List.map_cons, List.map_nil, hs, hx, hr]
  obtain ⟨B, m, cc, rfl, _⟩ := id h2
  exact hK' _ _ (hK B m cc w' (Lib.hid h2) (Lib.hid h3) (Lib.hid h4))
end
theorem Row.cut0 {w : World} {e : Nat} {B : Option Addr} {n c : Nat} {xs : List Value} (h : Row w e 1 (.slice B n c) xs) : Row w e 1 (.slice B 0 c) [] := by
  obtain ⟨A, m, c', e1, h1, hA, h2, h3, hr⟩ := h
  cases e1
  refine ⟨B, 0, c, rfl, rfl, hA, Nat.zero_le _, h3, fun hc => ?_⟩
  obtain ⟨g, cur, q1, q2, q3, q4⟩ := hr hc
  exact ⟨g, cur, q1, q2, q3, by simp⟩
/-- A row of one's own: it lies behind all that was there. -/
def Mine (W w : World) (v : Value) (xs : List Value) : Prop := Row w 23 1 v xs ∧ Below W.heap.size W w ∧ ∀ k, rowBlock v = some k → W.heap.size ≤ k
theorem Mine.more {W w w' : World} {v v' : Value} {xs ys : List Value} (h : Mine W w v xs) (hr : Row w' 23 1 v' ys) (hg : w.grownBy w' (rowBlock v)) (ha : rowBlock v' = rowBlock v ∨ ∃ b, rowBlock v' = some b ∧ w.heap.size ≤ b) : Mine W w' v' ys :=
  ⟨hr, h.2.1.grown hg h.2.1.size h.2.2, fun k hk => by
    rcases ha with ha | ⟨b, hb, hle⟩
    · exact h.2.2 k (ha ▸ hk)
    · rw [hb] at hk
      cases hk
      exact Nat.le_trans h.2.1.size hle⟩
theorem Mine.drewN {W w : World} {v : Value} {xs : List Value} (h : Mine W w v xs) (n : Nat) : Mine W (w.drewN n) v xs := ⟨h.1, pw_below_drewN h.2.1 n, h.2.2⟩
theorem Mine.drew {W w : World} {v : Value} {xs : List Value} (h : Mine W w v xs) : Mine W w.drew v xs := ⟨h.1, h.2.1.drew, h.2.2⟩
theorem Rd.below {W w : World} {A : Option Addr} {n : Nat} {xs : List Value} (h : Rd W 1 A n xs) (hb : Below W.heap.size W w) : Rd w 1 A n xs := ⟨h.1, fun hn => by
  obtain ⟨a, e, h0, hc⟩ := h.2 hn
  exact ⟨a, e, h0, fun j u hu => pw_cell_below hb (hc j u hu)⟩⟩
theorem rowBlock_len (B : Option Addr) (n m c : Nat) : rowBlock (.slice B n c) = rowBlock (.slice B m c) := by cases B <;> rfl
theorem grow_c (n : Nat) (hn : n ≤ 1000000) (W w : World) (hb : Below W.heap.size W w) :
    Calls Try.prog 33 #[.slice none 0 0, .int .i64 n] w fun e w' => ∃ B c, e = .returned (.slice B 0 c) ∧ Mine W w' (.slice B 0 c) [] := by
  have hneg : decide ((n : Int) < 0) = false := decide_eq_false (by omega)
  have qw : IntKind.i64.wrap (n : Int) = n := IntWalk.i64_in _ (by omega)
  have HB := Lib.hid hb
  clear hb
  by_cases h0 : n = 0
  · subst h0
    go_enter Try.func33, Try.ntmps33
    go_wp2
    go_ret
    exact ⟨none, 0, rfl, row_nil _ _ _ _, by first | exact HB.out | exact pw_below_drewN HB.out _ | exact HB.out.drew, fun k hk => absurd (show none = some k from hk) (fun h => nomatch h)⟩
  · have hp : decide ((n : Int) > 0) = true := decide_eq_true (by omega)
    have hp2 : decide ((0 : Int) < (n : Int)) = true := decide_eq_true (by omega)
    have hp3 : decide (0 < n) = true := decide_eq_true (by omega)
    go_enter Try.func33, Try.ntmps33
    go_wp2_with (at_builtin; refine wpList_appendZ (by rfl) _ _ _ _ (by rfl) 23 .i64 (.int .u64 0) 8 Try.underlying42 Try.underlying3 infoU64 rfl rfl (by omega) (.slice none 0 0) _ (by rfl) n (by rfl) (row_nil _ _ _ _) (by simp; omega) ?_; intro B1 n1 c2 w1 hr1 hg1 ha1)
    go_ret
    exact ⟨B1, c2, rfl, Mine.more (v := .slice none 0 0) (xs := []) ⟨row_nil _ _ _ _, by first | exact HB.out | exact pw_below_drewN HB.out _ | exact HB.out.drew, fun k hk => absurd (show none = some k from hk) (fun h => nomatch h)⟩ (Row.cut0 hr1.out) hg1.out (by rw [rowBlock_len B1 0 n1 c2]; exact ha1.out)⟩
def cat2 (n1 n2 : Nat) (j : Nat) : Nat := if j = 0 then 0 else if j = 1 then n1 else n1 + n2
def rows2 (xs ys : List Value) (j : Nat) : List Value := if j = 0 then [] else if j = 1 then xs else xs ++ ys
set_option maxHeartbeats 1000000 in
theorem concat_c (gb cb : Nat) (A1 A2 : Option Addr) (n1 n2 c1 c2 : Nat) (xs ys : List Value) (w : World) (h0 : w.cell? ⟨gb, 0, none⟩ = some (.slice A1 n1 c1)) (h1 : w.cell? ⟨gb, 1, none⟩ = some (.slice A2 n2 c2))
    (r1 : Rd w 1 A1 n1 xs) (r2 : Rd w 1 A2 n2 ys) (hb1 : n1 ≤ 100000) (hb2 : n2 ≤ 100000) (o1 : ∀ u ∈ xs, u.oneCell' = true) (o2 : ∀ u ∈ ys, u.oneCell' = true) :
    Calls Try.prog 29 #[.slice (some ⟨gb, 0, none⟩) 2 cb] w fun e w' => ∃ B n c, e = .returned (.slice B n c) ∧ Mine w w' (.slice B n c) (xs ++ ys) := by
  have R1 := Lib.hid r1
  have R2 := Lib.hid r2
  have O := Lib.hid (And.intro o1 o2)
  have LX := Lib.hid (show xs.length = n1 by simpa using r1.1)
  have LY := Lib.hid (show ys.length = n2 by simpa using r2.1)
  have q1 : IntKind.i64.wrap (n1 : Int) = (n1 : Int) := IntWalk.i64_in _ (by omega)
  have q2 : IntKind.i64.wrap ((n1 : Int) + (n2 : Int)) = ((n1 + n2 : Nat) : Int) := by rw [IntWalk.i64_in _ (by omega)]; omega
  have d1 : decide ((n1 : Int) < 0) = false := decide_eq_false (by omega)
  have d2 : decide (((n1 + n2 : Nat) : Int) < 0) = false := decide_eq_false (by omega)
  have d3 : decide ((n1 : Int) + (n2 : Int) < 0) = false := decide_eq_false (by omega)
  clear r1 r2 o1 o2
  go_enter Try.func29, Try.ntmps29
  go_wp2_with fail
  go_loopw [3, 11] (fun s i wr => ∃ j : Nat, j ≤ 2 ∧ s = .int .i64 (cat2 n1 n2 j : Nat) ∧ i = .int .i64 j ∧ ∃ nd, wr = w.drewN nd) (fun _ i _ => 2 - (intOf i).toNat)
  case atStart => exact ⟨0, by omega, rfl, rfl, 0, rfl⟩
  case round =>
    obtain ⟨j, hj, rfl, rfl, nd, rfl⟩ := hrel
    rcases (by omega : j = 0 ∨ j = 1 ∨ j = 2) with rfl | rfl | rfl
    · simp only [cat2, if_pos]
      go_wp2
      go_roundw
      case rel => exact ⟨1, by omega, by simp [cat2], rfl, _, rfl⟩
      case measure => simp [intOf]
    · rw [show cat2 n1 n2 1 = n1 from rfl]
      go_wp2
      go_roundw
      case rel => exact ⟨2, by omega, by first | rfl | simp [cat2], rfl, _, rfl⟩
      case measure => simp [intOf]
    · rw [show cat2 n1 n2 2 = n1 + n2 from rfl]
      have hB := Lib.hid (pw_below_drewN (Below.refl w.heap.size w) nd)
      have k0 : (w.drewN nd).cell? ⟨gb, 0, none⟩ = some (.slice A1 n1 c1) := h0
      have k1 : (w.drewN nd).cell? ⟨gb, 1, none⟩ = some (.slice A2 n2 c2) := h1
      generalize w.drewN nd = wa at hB k0 k1 ⊢
      go_wp2_with fail
      refine (grow_c (n1 + n2) (by omega) w _ hB.out).mono ?_
      rintro e wb ⟨B, c, rfl, hm⟩
      have HM := Lib.hid hm
      have hbw := hm.2.1
      have K0 := Lib.hid (show ∀ w' : World, Below w.heap.size w w' → w'.cell? ⟨gb, 0, none⟩ = some (.slice A1 n1 c1) ∧ w'.cell? ⟨gb, 1, none⟩ = some (.slice A2 n2 c2) from fun w' hb => ⟨pw_cell_below hb h0, pw_cell_below hb h1⟩)
      clear hm k0 k1 h0 h1 hbw
      go_wp2_with fail
      go_loopw [6, 27] (fun v i wr => ∃ j : Nat, j ≤ 2 ∧ i = .int .i64 j ∧ ∃ B n c, v = .slice B n c ∧ Mine w wr (.slice B n c) (rows2 xs ys j)) (fun _ i _ => 2 - (intOf i).toNat)
      case atStart => exact ⟨0, by omega, rfl, B, 0, c, rfl, HM.out⟩
      case round =>
        obtain ⟨j, hj, rfl, B, n, c, rfl, hm⟩ := hrel
        have HM1 := Lib.hid hm
        obtain ⟨k0, k1⟩ := K0.out _ hm.2.1
        have RD1 := Lib.hid (Rd.below R1.out hm.2.1)
        have RD2 := Lib.hid (Rd.below R2.out hm.2.1)
        clear hm HM
        rcases (by omega : j = 0 ∨ j = 1 ∨ j = 2) with rfl | rfl | rfl
        · go_wp2_with (at_builtin; refine wpList_append_row (by rfl) _ _ _ (by rfl) 23 1 (.int .u64 0) 8 Try.underlying42 infoU64 rfl (by omega) (by omega) (.slice B n c) [] (by rfl) A1 n1 c1 xs (by rfl) HM1.out.1 RD1.out O.out.1 (by have := LX.out; simp; omega) ?_; intro B1 m1 c3 w1 hr1 hg1 ha1)
          have HN := Lib.hid (HM1.out.more hr1.out hg1.out ha1.out)
          clear hr1 hg1 ha1
          go_wp2
          go_roundw
          case rel => exact ⟨1, by omega, rfl, B1, m1, c3, rfl, HN.out⟩
          case measure => simp [intOf]
        · go_wp2_with (at_builtin; refine wpList_append_row (by rfl) _ _ _ (by rfl) 23 1 (.int .u64 0) 8 Try.underlying42 infoU64 rfl (by omega) (by omega) (.slice B n c) xs (by rfl) A2 n2 c2 ys (by rfl) HM1.out.1 RD2.out O.out.2 (by have := LX.out; have := LY.out; omega) ?_; intro B1 m1 c3 w1 hr1 hg1 ha1)
          have HN := Lib.hid (HM1.out.more hr1.out hg1.out ha1.out)
          clear hr1 hg1 ha1
          go_wp2
          go_roundw
          case rel => exact ⟨2, by omega, rfl, B1, m1, c3, rfl, HN.out⟩
          case measure => simp [intOf]
        · go_wp2
          go_ret
          exact ⟨B, n, c, rfl, by first | exact HM1.out | exact HM1.out.drewN _ | exact HM1.out.drew⟩
end Go.Proofs.Ytfjnhdbbjggkmaa.Mem
