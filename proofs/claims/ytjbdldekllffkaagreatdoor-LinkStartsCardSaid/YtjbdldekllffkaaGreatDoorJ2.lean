/- Lemmas of the walk, part 2. -/
import Derived.Test.YtjbdldekllffkaaGreatDoorJ1
import Derived.Test.YtjbdldekllffkaaGreatDoorJ0
import Derived.LoopTactic
/- step's machine: lands, leaves. -/
set_option linter.unusedVariables false
namespace Go.Proofs.YtjbdldekllffkaaGreatDoor
open Go.RowKit Go.Sep Go.St
variable {w : World} {S : Nat → Prop} {L : Key → Option Ck} {u : Nat} {P : Ptrs} {M : Mo} {s : Ms}
theorem RdL.rd {k : IntKind} {A : Option Addr} {n c : Nat} {l : List Int} (h : RdL w S 1 (num1 k) (.slice A n c) l) : Rd w 1 A n (ints k l) := by
  obtain ⟨A, c, hv, h1, h2, h3, _⟩ := h
  cases hv
  refine ⟨by rw [ints_len, Nat.mul_one], fun hp => ?_⟩
  obtain ⟨b, o, rfl, _, hc⟩ := h3 hp
  refine ⟨_, rfl, rfl, fun j v hj => ?_⟩
  have hj' := (List.getElem?_eq_some_iff.1 hj).1
  rw [ints_len] at hj'
  obtain ⟨cs, g1, g2, g3⟩ := hc j _ (List.getElem?_eq_getElem hj')
  rw [show (Addr.mk b o none).add j = ⟨b, o + j, none⟩ by unfold Addr.add; split <;> simp_all]
  have hv : v = .int k l[j] := by rw [ints_get k l j _ (List.getElem?_eq_getElem hj')] at hj; injection hj with hj; exact hj.symm
  subst hv
  have g2 : cs = [.int k l[j]] := g2
  subst g2
  have := g3 0 _ rfl
  rwa [Nat.mul_one, Nat.add_zero] at this
/-- The stack as it lies. -/
structure Stk (w : World) (L : Key → Option Ck) (u : Nat) (P : Ptrs) (s : Ms) (fv vv : Value) (A : Option Addr) (N c : Nat) : Prop where
  cfg : L (.cfg u) = some (.cl P.cB P.co [fv, .slice A N c, .bool s.c.ov, .int .i64 s.c.er, vv])
  frs : FrsAt L u fv s.c.frs
  st : L (.st u) = some (.rw 58 1 (.slice A N c) (ints .u64 s.c.st))
  va : L (.va u) = some (.rw 58 1 vv (ints .u64 s.c.va))
  len : s.c.st.length = N
  le : N ≤ c
  lec : c ≤ maxLen
  row : Row w 58 1 (.slice A N c) (ints .u64 s.c.st)
  m0 : w.cell? ⟨P.mB, 0, none⟩ = some (.pointer (some ⟨P.cB, P.co, none⟩))
  c0 : w.cell? ⟨P.cB, P.co, none⟩ = some fv
  c1 : w.cell? ⟨P.cB, P.co + 1, none⟩ = some (.slice A N c)
  c2 : w.cell? ⟨P.cB, P.co + 2, none⟩ = some (.bool s.c.ov)
  c3 : w.cell? ⟨P.cB, P.co + 3, none⟩ = some (.int .i64 s.c.er)
  c4 : w.cell? ⟨P.cB, P.co + 4, none⟩ = some vv
  z : ∀ j, w.frozen? ⟨P.cB, j, none⟩ = false
theorem Md.stk (h : Md w S L u P M s) : ∃ fv vv A N c, Stk w L u P s fv vv A N c := by
  obtain ⟨fv, sv, vv, hC, hF, hS, hV⟩ := h.cfg
  obtain ⟨A, N, c, rfl, hNc, hc, hl, hrd⟩ := Row.rd (h.sep.holds _ _ hS)
  rw [ints_len, Nat.mul_one] at hl
  exact ⟨fv, vv, A, N, c, hC, hF, hS, hV, hl, hNc, hc, h.sep.holds _ _ hS, h.sep.cell0 h.mach 0 _ rfl, h.sep.cellA hC, h.sep.cell hC 1 _ rfl, h.sep.cell hC 2 _ rfl, h.sep.cell hC 3 _ rfl, h.sep.cell hC 4 _ rfl, fun j => h.sep.frozen hC j⟩
/-- A row cut. -/
theorem Row.cut {w : World} {e : Nat} {k : IntKind} {A : Option Addr} {N c : Nat} {l : List Int} (h : Row w e 1 (.slice A N c) (ints k l)) (n : Nat) (hn : n ≤ N) : Row w e 1 (.slice A n c) (ints k (l.take n)) := by
  obtain ⟨A', n', c', hv, h1, hA, h2, h3, h4⟩ := h
  cases hv
  rw [ints_len, Nat.mul_one] at h1
  refine ⟨A, n, c, rfl, by rw [ints_len, List.length_take]; omega, hA, by omega, h3, fun h0 => ?_⟩
  obtain ⟨g, cur, rfl, hg1, hc1, ht⟩ := h4 h0
  refine ⟨g, cur, rfl, hg1, hc1, ?_⟩
  rw [Nat.mul_one] at ht ⊢
  have := congrArg (List.take n) ht
  rw [List.take_take, Nat.min_eq_left hn] at this
  rw [this]
  simp only [ints, List.map_take]
theorem blk_cut {A : Option Addr} {n m c : Nat} : rowBlock (.slice A n c) = rowBlock (.slice A m c) := by cases A <;> rfl
set_option maxRecDepth 100000 in
set_option maxHeartbeats 1000000 in
theorem lands_yes (h : Md w S L u P M s) (n ht : Int) (k nn hh : Nat) (hn : n = nn) (hk : s.c.st.length = k + nn) (hht : ht = hh) (hle : hh ≤ k) (hb : s.c.st.length ≤ 1000000000) :
    Calls Tryz.prog 162 #[.pointer (some ⟨P.mB, 0, none⟩), .int .i64 n, .int .i64 ht] w fun e w' => e = .returned (.bool true) ∧ ToS w S L u P M w' { s with c := { s.c with st := s.c.st.take hh ++ s.c.st.drop k } } := by
  subst hht
  have HP := Lib.hid (pops_yes h n k nn hn hk hb)
  have HL := Lib.hid (And.intro hk hb)
  have HH := Lib.hid hle
  have hn0 : (0 : Int) ≤ n := by omega
  clear h hn hk hb hle hn0
  go_enter Tryz.func162, Tryz.ntmps162
  go_wp2_with fail
  refine HP.out.mono ?_
  rintro e w1 ⟨B, n1, c1, rfl, S1, L1, h1, k1, ro1, hS1, rd1, sf1⟩
  obtain ⟨fv, vv, A, N, c, hs⟩ := h1.stk
  have hN : N = k := by have := hs.len; have := HL.out; simp at *; omega
  subst hN
  have m0 := hs.m0
  have c1' := hs.c1
  have d1 : decide ((hh : Int) < 0) = false := decide_eq_false (by omega)
  have d2 : decide (N < hh) = false := decide_eq_false (by have := HH.out; omega)
  have H1 := Lib.hid (And.intro h1 (And.intro k1 (And.intro ro1 (And.intro hS1 (And.intro rd1 (And.intro hs sf1))))))
  clear h1 k1 ro1 hS1 rd1 hs HP sf1
  go_wp2_with (go_at_call 52; refine (stuck_no _ _).mono ?_; rintro e w2 ⟨rfl, rfl⟩)
  obtain ⟨h1, k1, ro1, hS1, rd1, hs, sf1⟩ := H1.out
  have hrow := Row.cut hs.row hh HH.out
  have hst : ((s.c.st.take N).take hh) = s.c.st.take hh := by rw [List.take_take, Nat.min_eq_left HH.out]
  simp only [hst] at hrow
  have key : ∀ v1 w2, Row w2 58 1 v1 (ints .u64 (s.c.st.take hh) ++ ints .u64 (s.c.st.drop N)) → w1.drew.grownBy w2 (rowBlock (.slice A hh c)) → (rowBlock v1 = rowBlock (.slice A hh c) ∨ ∃ b, rowBlock v1 = some b ∧ w1.drew.heap.size ≤ b) →
      ToS w S L u P M (w2.setCell ⟨P.cB, P.co + 1, none⟩ v1) { s with c := { s.c with st := s.c.st.take hh ++ s.c.st.drop N } } := by
    intro v1 w2 r g a
    rw [← ints_app] at r
    rw [blk_cut (m := N)] at g a
    obtain ⟨S', L', x1, x2, x3, x4, x5⟩ := stack_put h1.drew hs.cfg hs.frs hs.st hs.va r g a
    exact ⟨S', L', x1, k1.trans x2, ro1.trans x3 hS1, fun b hb => x4 b (hS1 b hb), sf1.trans x5⟩
  have cl : ∀ w2, w1.drew.grownBy w2 (rowBlock (.slice A hh c)) → w2.cell? ⟨P.cB, P.co + 1, none⟩ = some (.slice A N c) ∧ w2.cell? ⟨P.mB, 0, none⟩ = some (.pointer (some ⟨P.cB, P.co, none⟩)) ∧ w2.frozen? ⟨P.cB, P.co + 1, none⟩ = false := by
    intro w2 g
    rw [blk_cut (m := N)] at g
    exact ⟨(h1.sep.drew.grown_cell hs.st g hs.cfg _ rfl).1.trans c1', (h1.sep.drew.grown_cell hs.st g h1.mach _ rfl).1.trans m0, (h1.sep.drew.grown_cell hs.st g hs.cfg _ rfl).2.trans (hs.z _)⟩
  obtain ⟨i0, hi, _, hz1, _⟩ := info_parts infoU64
  have hcut := slice_to (P := Tryz.prog) (t := 23) Tryz.underlying23 hi A N c hh HH.out hs.le
  have KEY := Lib.hid key
  have CL := Lib.hid cl
  have HR := Lib.hid hrow
  have HY := Lib.hid rd1.rd
  have hbytes : ((ints .u64 (s.c.st.take hh)).length + (ints .u64 (s.c.st.drop N)).length) * 8 ≤ 140737488355328 := by
    rw [ints_len, ints_len, List.length_take, List.length_drop]; have := HL.out; omega
  clear h1 k1 ro1 hS1 rd1 hs hrow hst key cl hi hz1 H1 d1 d2 sf1
  refine wp_region_z (fun w' => w'.cell? ⟨P.mB, 0, none⟩ = some (.pointer (some ⟨P.cB, P.co, none⟩)) ∧ w'.cell? ⟨P.cB, P.co + 1, none⟩ = some (.slice A N c)) (fun j => j == 15 || j == 16 || j == 17) (by kernel_rfl) ?_ (fun hHeld => ?_)
  · first | exact ⟨m0, c1'⟩ | exact ⟨q2, q1⟩
  (refine wpZ_take (i := 0) (oi := ⟨some 35, .move (.tmp 0), 122, _, _, none⟩) (v := ?_) rfl (by kernel_rfl) (fun _ _ _ h => h) (by assumption) (Or.inl ⟨by rfl, ?_⟩) ?_; rotate_left 1; · ((intro w hSw; (try dsimp only at hSw); go_split_ands; go_simp) <;> (try with_reducible rfl)))
  try simp only [Act.put, List.setIfInBounds_toArray, List.set_cons_zero, List.set_cons_succ]
  (refine wpZ_take (i := 1) (oi := ⟨some 36, .nilCheck (.tmp 35), 0, _, _, none⟩) (v := ?_) rfl (by kernel_rfl) (fun _ _ _ h => h) (by assumption) (Or.inl ⟨by rfl, ?_⟩) ?_; rotate_left 1; · ((intro w hSw; (try dsimp only at hSw); go_split_ands; go_simp) <;> (try with_reducible rfl)))
  try simp only [Act.put, List.setIfInBounds_toArray, List.set_cons_zero, List.set_cons_succ]
  (refine wpZ_take (i := 2) (oi := ⟨some 37, .fieldAddr 124 (.tmp 36) 0, 0, _, _, none⟩) (v := ?_) rfl (by kernel_rfl) (fun _ _ _ h => h) (by assumption) (Or.inl ⟨by rfl, ?_⟩) ?_; rotate_left 1; · ((intro w hSw; (try dsimp only at hSw); go_split_ands; go_simp) <;> (try with_reducible rfl)))
  try simp only [Act.put, List.setIfInBounds_toArray, List.set_cons_zero, List.set_cons_succ]
  (refine wpZ_take (i := 3) (oi := ⟨some 38, .load 53 (.tmp 37), 53, _, _, none⟩) (v := ?_) rfl (by kernel_rfl) (fun _ _ _ h => h) (by assumption) (Or.inl ⟨by rfl, ?_⟩) ?_; rotate_left 1; · ((intro w hSw; (try dsimp only at hSw); go_split_ands; go_simp) <;> (try with_reducible rfl)))
  try simp only [Act.put, List.setIfInBounds_toArray, List.set_cons_zero, List.set_cons_succ]
  (refine wpZ_take (i := 4) (oi := ⟨some 39, .move (.tmp 0), 122, _, _, none⟩) (v := ?_) rfl (by kernel_rfl) (fun _ _ _ h => h) (by assumption) (Or.inl ⟨by rfl, ?_⟩) ?_; rotate_left 1; · ((intro w hSw; (try dsimp only at hSw); go_split_ands; go_simp) <;> (try with_reducible rfl)))
  try simp only [Act.put, List.setIfInBounds_toArray, List.set_cons_zero, List.set_cons_succ]
  (refine wpZ_take (i := 5) (oi := ⟨some 40, .nilCheck (.tmp 39), 0, _, _, none⟩) (v := ?_) rfl (by kernel_rfl) (fun _ _ _ h => h) (by assumption) (Or.inl ⟨by rfl, ?_⟩) ?_; rotate_left 1; · ((intro w hSw; (try dsimp only at hSw); go_split_ands; go_simp) <;> (try with_reducible rfl)))
  try simp only [Act.put, List.setIfInBounds_toArray, List.set_cons_zero, List.set_cons_succ]
  (refine wpZ_take (i := 6) (oi := ⟨some 41, .fieldAddr 124 (.tmp 40) 0, 0, _, _, none⟩) (v := ?_) rfl (by kernel_rfl) (fun _ _ _ h => h) (by assumption) (Or.inl ⟨by rfl, ?_⟩) ?_; rotate_left 1; · ((intro w hSw; (try dsimp only at hSw); go_split_ands; go_simp) <;> (try with_reducible rfl)))
  try simp only [Act.put, List.setIfInBounds_toArray, List.set_cons_zero, List.set_cons_succ]
  (refine wpZ_take (i := 7) (oi := ⟨some 42, .load 53 (.tmp 41), 53, _, _, none⟩) (v := ?_) rfl (by kernel_rfl) (fun _ _ _ h => h) (by assumption) (Or.inl ⟨by rfl, ?_⟩) ?_; rotate_left 1; · ((intro w hSw; (try dsimp only at hSw); go_split_ands; go_simp) <;> (try with_reducible rfl)))
  try simp only [Act.put, List.setIfInBounds_toArray, List.set_cons_zero, List.set_cons_succ]
  (refine wpZ_take (i := 8) (oi := ⟨some 43, .nilCheck (.tmp 42), 0, _, _, none⟩) (v := ?_) rfl (by kernel_rfl) (fun _ _ _ h => h) (by assumption) (Or.inl ⟨by rfl, ?_⟩) ?_; rotate_left 1; · ((intro w hSw; (try dsimp only at hSw); go_split_ands; go_simp) <;> (try with_reducible rfl)))
  try simp only [Act.put, List.setIfInBounds_toArray, List.set_cons_zero, List.set_cons_succ]
  (refine wpZ_take (i := 9) (oi := ⟨some 44, .fieldAddr 48 (.tmp 43) 1, 0, _, _, none⟩) (v := ?_) rfl (by kernel_rfl) (fun _ _ _ h => h) (by assumption) (Or.inl ⟨by rfl, ?_⟩) ?_; rotate_left 1; · ((intro w hSw; (try dsimp only at hSw); go_split_ands; go_simp) <;> (try with_reducible rfl)))
  try simp only [Act.put, List.setIfInBounds_toArray, List.set_cons_zero, List.set_cons_succ]
  (refine wpZ_take (i := 10) (oi := ⟨some 45, .load 23 (.tmp 44), 23, _, _, none⟩) (v := ?_) rfl (by kernel_rfl) (fun _ _ _ h => h) (by assumption) (Or.inl ⟨by rfl, ?_⟩) ?_; rotate_left 1; · ((intro w hSw; (try dsimp only at hSw); go_split_ands; go_simp) <;> (try with_reducible rfl)))
  try simp only [Act.put, List.setIfInBounds_toArray, List.set_cons_zero, List.set_cons_succ]
  (refine wpZ_take (i := 11) (oi := ⟨some 46, .move (.tmp 2), 3, _, _, none⟩) (v := ?_) rfl (by kernel_rfl) (fun _ _ _ h => h) (by assumption) (Or.inl ⟨by rfl, ?_⟩) ?_; rotate_left 1; · ((intro w hSw; (try dsimp only at hSw); go_split_ands; go_simp) <;> (try with_reducible rfl)))
  try simp only [Act.put, List.setIfInBounds_toArray, List.set_cons_zero, List.set_cons_succ]
  (refine wpZ_take (i := 12) (oi := ⟨some 47, .slice 23 (.tmp 45) none (some (.tmp 46)) none, 23, _, _, none⟩) (v := ?_) rfl (by kernel_rfl) (fun _ _ _ h => h) (by assumption) (Or.inl ⟨by rfl, ?_⟩) ?_; rotate_left 1; · ((intro w hSw; (try dsimp only at hSw); go_split_ands; go_simp) <;> (try with_reducible rfl)))
  try simp only [Act.put, List.setIfInBounds_toArray, List.set_cons_zero, List.set_cons_succ]
  (refine wpZ_take (i := 13) (oi := ⟨some 48, .move (.tmp 7), 23, _, _, none⟩) (v := ?_) rfl (by kernel_rfl) (fun _ _ _ h => h) (by assumption) (Or.inl ⟨by rfl, ?_⟩) ?_; rotate_left 1; · ((intro w hSw; (try dsimp only at hSw); go_split_ands; go_simp) <;> (try with_reducible rfl)))
  try simp only [Act.put, List.setIfInBounds_toArray, List.set_cons_zero, List.set_cons_succ]
  refine wpZ_one (i := 14) (oi := ⟨some 49, .call { callee := .builtin .append, args := #[.tmp 47, .tmp 48], argTypes := #[23, 23] }, 23, _, _, none⟩) rfl (by kernel_rfl) (fun K hK => ?_)
  refine step_append_row (by rfl) _ _ _ (by rfl) 58 1 _ 8 Tryz.underlying23 infoU64 rfl (by omega) (by omega) (.slice A hh c) _ (by rfl) B n1 c1 _ (by rfl) HR.out HY.out (ints_one _ _) hbytes ?_; intro B1 n2 c2 w2 hr1 hg1 ha1; obtain ⟨q1, q2, q3⟩ := CL.out w2 hg1.out
  refine hK.out _ _ (fun _ => by (first | exact ⟨m0, c1'⟩ | exact ⟨q2, q1⟩)) (fun hh => ?_)
  have hHeld := hh rfl
  clear hK K
  try simp only [Act.put, List.setIfInBounds_toArray, List.set_cons_zero, List.set_cons_succ]
  refine wpZ_one (i := 15) (oi := ⟨some 50, .nilCheck (.tmp 38), 0, _, _, none⟩) rfl (by kernel_rfl) (fun K hK => ?_)
  go_simp
  refine hK.out _ _ (fun h => by simp at h) (fun _ => ?_)
  clear hK K
  try simp only [Act.put, List.setIfInBounds_toArray, List.set_cons_zero, List.set_cons_succ]
  refine wpZ_one (i := 16) (oi := ⟨some 51, .fieldAddr 48 (.tmp 50) 1, 0, _, _, none⟩) rfl (by kernel_rfl) (fun K hK => ?_)
  go_simp
  refine hK.out _ _ (fun h => by simp at h) (fun _ => ?_)
  clear hK K
  try simp only [Act.put, List.setIfInBounds_toArray, List.set_cons_zero, List.set_cons_succ]
  refine wpZ_one (i := 17) (oi := ⟨none, .store 23 (.tmp 51) (.tmp 49), 0, _, _, none⟩) rfl (by kernel_rfl) (fun K hK => ?_)
  go_simp
  refine hK.out _ _ (fun h => by simp at h) (fun _ => ?_)
  clear hK K
  try simp only [Act.put, List.setIfInBounds_toArray, List.set_cons_zero, List.set_cons_succ]
  refine wpZ_done (by kernel_rfl) ?_ _
  go_wp2
  go_ret
  exact ⟨rfl, KEY.out _ _ hr1.out hg1.out ha1.out⟩
theorem lands_no (h : Md w S L u P M s) (n ht : Int) (hn : n < 0 ∨ (s.c.st.length : Int) < n) (hn2 : -4611686018427387904 < n ∧ n < 4611686018427387904) (hb : s.c.st.length ≤ 1000000000) :
    Calls Tryz.prog 162 #[.pointer (some ⟨P.mB, 0, none⟩), .int .i64 n, .int .i64 ht] w fun e w' => e = .returned (.bool false) ∧ To w S L u P M w' { s with c := endsC 17 } := by
  have HP := Lib.hid (pops_no h n hn hn2 hb)
  clear h hn hn2 hb
  go_enter Tryz.func162, Tryz.ntmps162
  go_wp2_with fail
  refine HP.out.mono ?_
  rintro e w1 ⟨rfl, ht1⟩
  have HT := Lib.hid ht1
  clear ht1 HP
  go_wp2
  go_ret
  exact ⟨rfl, HT.out⟩
set_option maxRecDepth 100000 in
set_option maxHeartbeats 1000000 in
theorem lands_no2 (h : Md w S L u P M s) (n ht : Int) (k nn : Nat) (hn : n = nn) (hk : s.c.st.length = k + nn) (hht : ht < 0 ∨ (k : Int) < ht) (hb : s.c.st.length ≤ 1000000000) :
    Calls Tryz.prog 162 #[.pointer (some ⟨P.mB, 0, none⟩), .int .i64 n, .int .i64 ht] w fun e w' => e = .returned (.bool false) ∧ To w S L u P M w' { s with c := endsC 17 } := by
  have HP := Lib.hid (pops_yes h n k nn hn hk hb)
  have HL := Lib.hid (And.intro hk hb)
  have HH := Lib.hid hht
  clear h hn hk hb hht
  go_enter Tryz.func162, Tryz.ntmps162
  go_wp2_with fail
  refine HP.out.mono ?_
  rintro e w1 ⟨B, n1, c1, rfl, S1, L1, h1, k1, ro1, hS1, rd1, sf1⟩
  obtain ⟨fv, vv, A, N, c, hs⟩ := h1.stk
  have hN : N = k := by have := hs.len; have := HL.out; simp at *; omega
  subst hN
  have m0 := hs.m0
  have c1' := hs.c1
  have HE := Lib.hid (stuck_yes h1)
  have HK := Lib.hid (And.intro k1 (And.intro ro1 hS1))
  clear h1 k1 ro1 hS1 rd1 hs HP sf1
  rcases Int.lt_or_le ht 0 with h0 | h0
  · have d1 : decide (ht < 0) = true := decide_eq_true h0
    clear h0
    go_wp2_with fail
    refine HE.out.mono ?_
    rintro e w2 ⟨rfl, ht2⟩
    have HT := Lib.hid (To.trans HK.out.1 HK.out.2.1 HK.out.2.2 ht2)
    clear ht2 HE
    go_wp2
    go_ret
    exact ⟨rfl, HT.out⟩
  · have d1 : decide (ht < 0) = false := decide_eq_false (by omega)
    have d2 : decide ((N : Int) < ht) = true := decide_eq_true (by have := HH.out; omega)
    clear h0
    go_wp2_with fail
    refine HE.out.mono ?_
    rintro e w2 ⟨rfl, ht2⟩
    have HT := Lib.hid (To.trans HK.out.1 HK.out.2.1 HK.out.2.2 ht2)
    clear ht2 HE
    go_wp2
    go_ret
    exact ⟨rfl, HT.out⟩
/-- lands, told by landsC. -/
def LandsR (w : World) (S : Nat → Prop) (L : Key → Option Ck) (u : Nat) (P : Ptrs) (M : Mo) (s : Ms) (r : Option Cf) (e : Ending) (w' : World) : Prop := match r with
  | none => e = .returned (.bool false) ∧ To w S L u P M w' { s with c := endsC 17 }
  | some C1 => e = .returned (.bool true) ∧ ToS w S L u P M w' { s with c := C1 }
theorem lands_r (h : Md w S L u P M s) (n ht : Int) (hn2 : -4611686018427387904 < n ∧ n < 4611686018427387904) (hb : s.c.st.length ≤ 1000000000) (r : Option Cf) (hr : landsC s.c n ht = r) :
    Calls Tryz.prog 162 #[.pointer (some ⟨P.mB, 0, none⟩), .int .i64 n, .int .i64 ht] w (LandsR w S L u P M s r) := by
  subst hr
  by_cases h0 : n < 0 ∨ (s.c.st.length : Int) < n
  · have : landsC s.c n ht = none := by simp [landsC, popsC, h0]
    rw [this]
    exact lands_no h n ht h0 hn2 hb
  · obtain ⟨nn, rfl⟩ := Int.eq_ofNat_of_zero_le (show 0 ≤ n by omega)
    have hk : s.c.st.length = (s.c.st.length - nn) + nn := by omega
    by_cases h1 : ht < 0 ∨ ((s.c.st.length - nn : Nat) : Int) < ht
    · have : landsC s.c nn ht = none := by
        simp only [landsC, popsC, if_neg h0, Int.toNat_natCast, List.length_take]
        rw [if_pos (by omega)]
      rw [this]
      exact lands_no2 h nn ht _ nn rfl hk h1 hb
    · obtain ⟨hh, rfl⟩ := Int.eq_ofNat_of_zero_le (show 0 ≤ ht by omega)
      have : landsC s.c nn hh = some { s.c with st := s.c.st.take hh ++ s.c.st.drop (s.c.st.length - nn) } := by
        simp only [landsC, popsC, if_neg h0, Int.toNat_natCast, List.length_take]
        rw [if_neg (by omega), List.take_take, Nat.min_eq_left (by omega)]
      rw [this]
      exact lands_yes h nn hh _ nn hh rfl hk rfl (by omega) hb
theorem lands_c (h : Md w S L u P M s) (n ht : Int) (hn2 : -4611686018427387904 < n ∧ n < 4611686018427387904) (hb : s.c.st.length ≤ 1000000000) (r : Option Cf) (hr : landsC s.c n ht = r) :
    Calls Tryz.prog 162 #[.pointer (some ⟨P.mB, 0, none⟩), .int .i64 n, .int .i64 ht] w fun e w' => e = .returned (.bool r.isSome) ∧ To w S L u P M w' { s with c := r.getD (endsC 17) } := by
  refine (lands_r h n ht hn2 hb r hr).mono ?_
  intro e w' hq
  cases r with
  | none => exact hq
  | some C1 => exact ⟨hq.1, hq.2.to⟩
/-- The last frame lies where it did. -/
theorem Frm.same {w' : World} {S' : Nat → Prop} {L' : Key → Option Ck} {s' : Ms} {k fB fc : Nat} {f : Fr} {sv vv lv bv : Value} {raws : List (Value × Value)} (hf : Frm w L u P s k f fB fc sv vv raws lv bv) (h' : Md w' S' L' u P M s') (hs : SameF u L L') (hfr : s'.c.frs = s.c.frs) (hk : s.c.frs.length = k + 1) :
    ∃ sv' vv' raws', Frm w' L' u P s' k f fB fc sv' vv' raws' lv bv := by
  obtain ⟨fB2, fc2, sv2, vv2, raws2, lv2, bv2, hf2⟩ := h'.frm k f (by rw [hfr]; exact hk) (by rw [hfr]; exact hf.top)
  obtain ⟨q1, cB, co, fv, sv1, sv1', b, b', e, e', vv1, a1, a2⟩ := hs
  have e1 := hf2.cfg
  rw [a2] at e1
  have e0 := hf.cfg
  rw [a1] at e0
  simp only [Option.some.injEq, Ck.cl.injEq, List.cons.injEq, and_true] at e0 e1
  have e2 : Value.slice (some ⟨fB2, 0, none⟩) (k + 1) fc2 = Value.slice (some ⟨fB, 0, none⟩) (k + 1) fc := e1.2.2.1.symm.trans e0.2.2.1
  simp only [Value.slice.injEq, Option.some.injEq, Addr.mk.injEq, and_true, true_and] at e2
  obtain ⟨rfl, rfl⟩ := e2
  have e3 := hf2.loc
  rw [q1 _ (by simp) (by simp), hf.loc] at e3
  simp only [Option.some.injEq, Ck.rw.injEq, true_and, and_true] at e3
  subst e3
  have e4 := hf2.lab
  rw [q1 _ (by simp) (by simp), hf.lab] at e4
  simp only [Option.some.injEq, Ck.rw.injEq, true_and, and_true] at e4
  subst e4
  exact ⟨sv2, vv2, raws2, hf2⟩
theorem landsC_frs {C C1 : Cf} {n ht : Int} (hr : landsC C n ht = some C1) : C1.frs = C.frs := by
  unfold landsC popsC at hr
  split at hr
  · cases hr
  · rename_i l C' hp
    split at hp
    · cases hp
    · injection hp with hp
      injection hp with _ hp
      subst hp
      split at hr
      · cases hr
      · injection hr with hr
        rw [← hr]
end Go.Proofs.YtjbdldekllffkaaGreatDoor
/- step's machine: leaves. -/
set_option linter.unusedVariables false
namespace Go.Proofs.YtjbdldekllffkaaGreatDoor
open Go.RowKit Go.Sep Go.St
variable {w : World} {S : Nat → Prop} {L : Key → Option Ck} {u : Nat} {P : Ptrs} {M : Mo} {s : Ms}
theorem infoFr : (Tryz.prog.info? 118).map (fun i => (i.zero, i.size, i.bytes)) = some (some (.agg #[.int .i64 0, .int .i64 0, .int .i64 0, .int .i64 0, .slice none 0 0, .slice none 0 0]), 6, 80) := by kernel_rfl
theorem zip_take {α β : Type} : ∀ (l : List α) (r : List β) (k : Nat), (l.zip r).take k = (l.take k).zip (r.take k)
  | [], r, k => by simp
  | x :: l, [], k => by cases k <;> simp
  | x :: l, y :: r, 0 => by simp
  | x :: l, y :: r, k + 1 => by simp [zip_take l r k]
def leftC (k : Nat) (C1 : Cf) : Cf := if k = 0 then ⟨[], [], true, 0, C1.st⟩ else { C1 with frs := C1.frs.take k }
/-- The frames are cut. -/
theorem frames_cut {k fB fc : Nat} {f : Fr} {sv vv lv bv : Value} {raws : List (Value × Value)} (h : Md w S L u P M s) (hf : Frm w L u P s k f fB fc sv vv raws lv bv) :
    To w S L u P M (w.setCell ⟨P.cB, P.co, none⟩ (.slice (some ⟨fB, 0, none⟩) k fc)) { s with c := { s.c with frs := s.c.frs.take k } } := by
  have hl := hf.len
  have hr : Row w 118 6 (.slice (some ⟨fB, 0, none⟩) k fc) (((s.c.frs.take k).zip (raws.take k)).flatMap frG) := by
    obtain ⟨A, n, c, hv, h1, hA, h2, h3, h4⟩ := h.sep.holds _ _ hf.fr
    cases hv
    refine ⟨_, k, fc, rfl, ?_, (fun h => nomatch h), by omega, h3, fun h0 => ?_⟩
    · rw [flat_len frG 6 frG_len, List.length_zip, List.length_take, List.length_take, hl, Nat.min_self]
      rw [flat_len frG 6 frG_len, List.length_zip, hl, Nat.min_self] at h1
      rw [Nat.min_eq_left (by omega)]
    · obtain ⟨g, cur, he, hg, hcs, ht⟩ := h4 h0
      refine ⟨g, cur, he, hg, hcs, ?_⟩
      have := congrArg (List.take (k * 6)) ht
      rw [List.take_take, Nat.min_eq_left (by omega), flat_take frG 6 frG_len, zip_take] at this
      exact this
  obtain ⟨s1, r1⟩ := h.sep.grow hf.fr hr ⟨rfl, rfl, rfl, Nat.le_refl _, fun _ _ _ => rfl⟩ (.inl rfl)
  have hC1 : upd L (.fr u) (.rw 118 6 (.slice (some ⟨fB, 0, none⟩) k fc) (((s.c.frs.take k).zip (raws.take k)).flatMap frG)) (.cfg u) = some (.cl P.cB P.co [.slice (some ⟨fB, 0, none⟩) (k + 1) fc, sv, .bool s.c.ov, .int .i64 s.c.er, vv]) := by rw [upd_other _ _ (by simp)]; exact hf.cfg
  have s2 := s1.set hC1 0 (by simp) (.slice (some ⟨fB, 0, none⟩) k fc)
  have r2 := r1.trans' (s1.ro_setCell hC1 (P.co + 0) (.slice (some ⟨fB, 0, none⟩) k fc))
  rw [Nat.add_zero] at s2 r2
  refine ⟨S, _, h.recfg s2 r2 (fun _ h => h) ⟨.slice (some ⟨fB, 0, none⟩) k fc, sv, vv, ?_, ⟨raws.take k, by simp [hl], ?_, fun k' f' r' x y => ?_⟩, ?_, ?_⟩ (cf_upd (cf_upd (fun _ _ => rfl) rfl) rfl), ((Keep.refl u L).upd rfl).upd rfl, r2, fun _ h => h⟩
  · rw [upd_same]; rfl
  · rw [upd_other _ _ (by simp), upd_same]; rfl
  · rw [upd_other _ _ (by simp), upd_other _ _ (by simp), upd_other _ _ (by simp), upd_other _ _ (by simp)]
    have x' : s.c.frs[k']? = some f' := by
      have x : (s.c.frs.take k)[k']? = some f' := x
      rw [List.getElem?_take] at x
      split at x
      · exact x
      · cases x
    have y' : raws[k']? = some r' := by
      rw [List.getElem?_take] at y
      split at y
      · exact y
      · cases y
    exact hf.all k' f' r' x' y'
  · rw [upd_other _ _ (by simp), upd_other _ _ (by simp)]; exact hf.st
  · rw [upd_other _ _ (by simp), upd_other _ _ (by simp)]; exact hf.va
/-- A config that has ended: its stack is its values. -/
theorem cfg_done {fv sv vv : Value} (h : Md w S L u P M s) (hC : L (.cfg u) = some (.cl P.cB P.co [fv, sv, .bool s.c.ov, .int .i64 s.c.er, vv])) (hS : L (.st u) = some (.rw 58 1 sv (ints .u64 s.c.st))) :
    To w S L u P M (((((w.setCell ⟨P.cB, P.co, none⟩ (.slice none 0 0)).setCell ⟨P.cB, P.co + 1, none⟩ (.slice none 0 0)).setCell ⟨P.cB, P.co + 2, none⟩ (.bool true)).setCell ⟨P.cB, P.co + 3, none⟩ (.int .i64 0)).setCell ⟨P.cB, P.co + 4, none⟩ sv) { s with c := ⟨[], [], true, 0, s.c.st⟩ } := by
  obtain ⟨s1, r1⟩ := h.sep.set5 hC (.slice none 0 0) (.slice none 0 0) (.bool true) (.int .i64 0) sv
  have s2 := (((s1.name (k := .st u) (k' := .va u) (by rw [upd_other _ _ (by simp)]; exact hS)).nilRow (.fr u) 118 6 none).nilRow (.st u) 58 1 none)
  refine ⟨S, _, h.recfg s2 r1 (fun _ h => h) ⟨.slice none 0 0, .slice none 0 0, sv, ?_, ⟨[], rfl, ?_, fun k f r hk => by simp at hk⟩, ?_, ?_⟩ ?_, ?_, r1, fun _ h => h⟩
  · rw [upd_other _ _ (by simp), upd_other _ _ (by simp), upd_other _ _ (by simp), del_other _ (by simp), upd_same]
  · rw [upd_other _ _ (by simp), upd_same]; rfl
  · rw [upd_same]; rfl
  · rw [upd_other _ _ (by simp), upd_other _ _ (by simp), upd_same]
  · exact cf_upd (cf_upd (cf_upd (cf_del (cf_upd (fun _ _ => rfl) rfl) rfl) rfl) rfl) rfl
  · have k1 : Keep u L (Go.Sep.del (upd L (.cfg u) (.cl P.cB P.co [.slice none 0 0, .slice none 0 0, .bool true, .int .i64 0, sv])) (.st u)) := fun x hx => by
      rw [del_other _ (by rintro rfl; exact hx rfl)]
      exact ((Keep.refl u L).upd rfl) x hx
    exact ((k1.upd rfl).upd rfl).upd rfl
set_option maxRecDepth 100000 in
set_option maxHeartbeats 2000000 in
theorem leaves_no (h : Md w S L u P M s) {k fB fc : Nat} {f : Fr} {sv vv lv bv : Value} {raws : List (Value × Value)} (hf : Frm w L u P s k f fB fc sv vv raws lv bv) (hk2 : k ≤ 1000000)
    (hn2 : -4611686018427387904 < f.ar ∧ f.ar < 4611686018427387904) (hb : s.c.st.length ≤ 1000000000) (hr : landsC s.c f.ar f.ht = none) :
    Calls Tryz.prog 100 #[.pointer (some ⟨P.mB, 0, none⟩)] w fun e w' => e = .returned (.tuple #[]) ∧ To w S L u P M w' { s with c := endsC 17 } := by
  have HF := Lib.hid (frame_c h hf hk2)
  have HLA := Lib.hid (fun m => lands_c (h.still ((Still.refl w).drewN m)) f.ar f.ht hn2 hb _ hr)
  have f2 := hf.cell 2 _ rfl
  have f3 := hf.cell 3 _ rfl
  clear h hf hk2 hn2 hb hr
  go_enter Tryz.func100, Tryz.ntmps100
  go_wp2_with fail
  refine HF.out.mono ?_
  rintro e w1 ⟨rfl, n1, rfl⟩
  go_wp2_with fail
  refine wp_region_z (fun w' => w'.cell? ⟨fB, k * 6 + 2, none⟩ = some (.int .i64 f.ar) ∧ w'.cell? ⟨fB, k * 6 + 3, none⟩ = some (.int .i64 f.ht)) (fun j => j == 9 || j == 10) (by kernel_rfl) ?_ (fun hHeld => ?_)
  · go_keep
  (refine wpZ_take (i := 0) (oi := ⟨some 5, .move (.tmp 0), 122, _, _, none⟩) (v := ?_) rfl (by kernel_rfl) (fun _ _ _ h => h) (by assumption) (Or.inl ⟨by rfl, ?_⟩) ?_; rotate_left 1; · ((intro w hSw; (try dsimp only at hSw); go_split_ands; go_simp) <;> (try with_reducible rfl)))
  try simp only [Act.put, List.setIfInBounds_toArray, List.set_cons_zero, List.set_cons_succ]
  (refine wpZ_take (i := 1) (oi := ⟨some 6, .move (.tmp 2), 126, _, _, none⟩) (v := ?_) rfl (by kernel_rfl) (fun _ _ _ h => h) (by assumption) (Or.inl ⟨by rfl, ?_⟩) ?_; rotate_left 1; · ((intro w hSw; (try dsimp only at hSw); go_split_ands; go_simp) <;> (try with_reducible rfl)))
  try simp only [Act.put, List.setIfInBounds_toArray, List.set_cons_zero, List.set_cons_succ]
  (refine wpZ_take (i := 2) (oi := ⟨some 7, .nilCheck (.tmp 6), 0, _, _, none⟩) (v := ?_) rfl (by kernel_rfl) (fun _ _ _ h => h) (by assumption) (Or.inl ⟨by rfl, ?_⟩) ?_; rotate_left 1; · ((intro w hSw; (try dsimp only at hSw); go_split_ands; go_simp) <;> (try with_reducible rfl)))
  try simp only [Act.put, List.setIfInBounds_toArray, List.set_cons_zero, List.set_cons_succ]
  (refine wpZ_take (i := 3) (oi := ⟨some 8, .fieldAddr 118 (.tmp 7) 2, 0, _, _, none⟩) (v := ?_) rfl (by kernel_rfl) (fun _ _ _ h => h) (by assumption) (Or.inl ⟨by rfl, ?_⟩) ?_; rotate_left 1; · ((intro w hSw; (try dsimp only at hSw); go_split_ands; go_simp) <;> (try with_reducible rfl)))
  try simp only [Act.put, List.setIfInBounds_toArray, List.set_cons_zero, List.set_cons_succ]
  (refine wpZ_take (i := 4) (oi := ⟨some 9, .load 3 (.tmp 8), 3, _, _, none⟩) (v := ?_) rfl (by kernel_rfl) (fun _ _ _ h => h) (by assumption) (Or.inl ⟨by rfl, ?_⟩) ?_; rotate_left 1; · ((intro w hSw; (try dsimp only at hSw); go_split_ands; go_simp) <;> (try with_reducible rfl)))
  try simp only [Act.put, List.setIfInBounds_toArray, List.set_cons_zero, List.set_cons_succ]
  (refine wpZ_take (i := 5) (oi := ⟨some 10, .move (.tmp 2), 126, _, _, none⟩) (v := ?_) rfl (by kernel_rfl) (fun _ _ _ h => h) (by assumption) (Or.inl ⟨by rfl, ?_⟩) ?_; rotate_left 1; · ((intro w hSw; (try dsimp only at hSw); go_split_ands; go_simp) <;> (try with_reducible rfl)))
  try simp only [Act.put, List.setIfInBounds_toArray, List.set_cons_zero, List.set_cons_succ]
  (refine wpZ_take (i := 6) (oi := ⟨some 11, .nilCheck (.tmp 10), 0, _, _, none⟩) (v := ?_) rfl (by kernel_rfl) (fun _ _ _ h => h) (by assumption) (Or.inl ⟨by rfl, ?_⟩) ?_; rotate_left 1; · ((intro w hSw; (try dsimp only at hSw); go_split_ands; go_simp) <;> (try with_reducible rfl)))
  try simp only [Act.put, List.setIfInBounds_toArray, List.set_cons_zero, List.set_cons_succ]
  (refine wpZ_take (i := 7) (oi := ⟨some 12, .fieldAddr 118 (.tmp 11) 3, 0, _, _, none⟩) (v := ?_) rfl (by kernel_rfl) (fun _ _ _ h => h) (by assumption) (Or.inl ⟨by rfl, ?_⟩) ?_; rotate_left 1; · ((intro w hSw; (try dsimp only at hSw); go_split_ands; go_simp) <;> (try with_reducible rfl)))
  try simp only [Act.put, List.setIfInBounds_toArray, List.set_cons_zero, List.set_cons_succ]
  (refine wpZ_take (i := 8) (oi := ⟨some 13, .load 3 (.tmp 12), 3, _, _, none⟩) (v := ?_) rfl (by kernel_rfl) (fun _ _ _ h => h) (by assumption) (Or.inl ⟨by rfl, ?_⟩) ?_; rotate_left 1; · ((intro w hSw; (try dsimp only at hSw); go_split_ands; go_simp) <;> (try with_reducible rfl)))
  try simp only [Act.put, List.setIfInBounds_toArray, List.set_cons_zero, List.set_cons_succ]
  refine wpZ_one (i := 9) (oi := ⟨some 14, .call { callee := .value (.func 162), args := #[.tmp 5, .tmp 9, .tmp 13], argTypes := #[122, 3, 3] }, 4, _, _, none⟩) rfl (by kernel_rfl) (fun K hK => ?_)
  go_simp; refine (HLA.out _).mono ?_; rintro e w2 ⟨rfl, ht⟩; have HT := Lib.hid ht; clear ht; simp only [Option.isSome_none]; go_wp2_with fail
  refine hK.out _ _ (fun h => by simp at h) (fun _ => ?_)
  clear hK K
  try simp only [Act.put, List.setIfInBounds_toArray, List.set_cons_zero, List.set_cons_succ]
  refine wpZ_one (i := 10) (oi := ⟨some 15, .unOp .not 4 (.tmp 14), 4, _, _, none⟩) rfl (by kernel_rfl) (fun K hK => ?_)
  go_simp
  refine hK.out _ _ (fun h => by simp at h) (fun _ => ?_)
  clear hK K
  try simp only [Act.put, List.setIfInBounds_toArray, List.set_cons_zero, List.set_cons_succ]
  refine wpZ_done (by kernel_rfl) ?_ _
  go_wp2
  exact bodyPost_ret (v := .tuple #[]) (by simp [results, Tryz.results100, go_sem]) rfl ⟨rfl, HT.out⟩
set_option maxRecDepth 100000 in
set_option maxHeartbeats 2000000 in
theorem leaves_yes (h : Md w S L u P M s) {k fB fc : Nat} {f : Fr} {sv vv lv bv : Value} {raws : List (Value × Value)} (hf : Frm w L u P s k f fB fc sv vv raws lv bv) (hk : s.c.frs.length = k + 1) (hk2 : k ≤ 1000000)
    (hn2 : -4611686018427387904 < f.ar ∧ f.ar < 4611686018427387904) (hb : s.c.st.length ≤ 1000000000) (C1 : Cf) (hr : landsC s.c f.ar f.ht = some C1) (hfr : C1.frs = s.c.frs) :
    Calls Tryz.prog 100 #[.pointer (some ⟨P.mB, 0, none⟩)] w fun e w' => e = .returned (.tuple #[]) ∧ To w S L u P M w' { s with c := leftC k C1 } := by
  have HF := Lib.hid (frame_c h hf hk2)
  have HLA := Lib.hid (fun m => lands_c (h.still ((Still.refl w).drewN m)) f.ar f.ht hn2 hb _ hr)
  have f2 := hf.cell 2 _ rfl
  have f3 := hf.cell 3 _ rfl
  have HK := Lib.hid (And.intro hk (And.intro hk2 (And.intro hfr hf.top)))
  clear h hf hk hk2 hn2 hb hr hfr
  go_enter Tryz.func100, Tryz.ntmps100
  go_wp2_with fail
  refine HF.out.mono ?_
  rintro e w1 ⟨rfl, n1, rfl⟩
  go_wp2_with fail
  refine wp_region_z (fun w' => w'.cell? ⟨fB, k * 6 + 2, none⟩ = some (.int .i64 f.ar) ∧ w'.cell? ⟨fB, k * 6 + 3, none⟩ = some (.int .i64 f.ht)) (fun j => j == 9 || j == 10) (by kernel_rfl) ?_ (fun hHeld => ?_)
  · go_keep
  (refine wpZ_take (i := 0) (oi := ⟨some 5, .move (.tmp 0), 122, _, _, none⟩) (v := ?_) rfl (by kernel_rfl) (fun _ _ _ h => h) (by assumption) (Or.inl ⟨by rfl, ?_⟩) ?_; rotate_left 1; · ((intro w hSw; (try dsimp only at hSw); go_split_ands; go_simp) <;> (try with_reducible rfl)))
  try simp only [Act.put, List.setIfInBounds_toArray, List.set_cons_zero, List.set_cons_succ]
  (refine wpZ_take (i := 1) (oi := ⟨some 6, .move (.tmp 2), 126, _, _, none⟩) (v := ?_) rfl (by kernel_rfl) (fun _ _ _ h => h) (by assumption) (Or.inl ⟨by rfl, ?_⟩) ?_; rotate_left 1; · ((intro w hSw; (try dsimp only at hSw); go_split_ands; go_simp) <;> (try with_reducible rfl)))
  try simp only [Act.put, List.setIfInBounds_toArray, List.set_cons_zero, List.set_cons_succ]
  (refine wpZ_take (i := 2) (oi := ⟨some 7, .nilCheck (.tmp 6), 0, _, _, none⟩) (v := ?_) rfl (by kernel_rfl) (fun _ _ _ h => h) (by assumption) (Or.inl ⟨by rfl, ?_⟩) ?_; rotate_left 1; · ((intro w hSw; (try dsimp only at hSw); go_split_ands; go_simp) <;> (try with_reducible rfl)))
  try simp only [Act.put, List.setIfInBounds_toArray, List.set_cons_zero, List.set_cons_succ]
  (refine wpZ_take (i := 3) (oi := ⟨some 8, .fieldAddr 118 (.tmp 7) 2, 0, _, _, none⟩) (v := ?_) rfl (by kernel_rfl) (fun _ _ _ h => h) (by assumption) (Or.inl ⟨by rfl, ?_⟩) ?_; rotate_left 1; · ((intro w hSw; (try dsimp only at hSw); go_split_ands; go_simp) <;> (try with_reducible rfl)))
  try simp only [Act.put, List.setIfInBounds_toArray, List.set_cons_zero, List.set_cons_succ]
  (refine wpZ_take (i := 4) (oi := ⟨some 9, .load 3 (.tmp 8), 3, _, _, none⟩) (v := ?_) rfl (by kernel_rfl) (fun _ _ _ h => h) (by assumption) (Or.inl ⟨by rfl, ?_⟩) ?_; rotate_left 1; · ((intro w hSw; (try dsimp only at hSw); go_split_ands; go_simp) <;> (try with_reducible rfl)))
  try simp only [Act.put, List.setIfInBounds_toArray, List.set_cons_zero, List.set_cons_succ]
  (refine wpZ_take (i := 5) (oi := ⟨some 10, .move (.tmp 2), 126, _, _, none⟩) (v := ?_) rfl (by kernel_rfl) (fun _ _ _ h => h) (by assumption) (Or.inl ⟨by rfl, ?_⟩) ?_; rotate_left 1; · ((intro w hSw; (try dsimp only at hSw); go_split_ands; go_simp) <;> (try with_reducible rfl)))
  try simp only [Act.put, List.setIfInBounds_toArray, List.set_cons_zero, List.set_cons_succ]
  (refine wpZ_take (i := 6) (oi := ⟨some 11, .nilCheck (.tmp 10), 0, _, _, none⟩) (v := ?_) rfl (by kernel_rfl) (fun _ _ _ h => h) (by assumption) (Or.inl ⟨by rfl, ?_⟩) ?_; rotate_left 1; · ((intro w hSw; (try dsimp only at hSw); go_split_ands; go_simp) <;> (try with_reducible rfl)))
  try simp only [Act.put, List.setIfInBounds_toArray, List.set_cons_zero, List.set_cons_succ]
  (refine wpZ_take (i := 7) (oi := ⟨some 12, .fieldAddr 118 (.tmp 11) 3, 0, _, _, none⟩) (v := ?_) rfl (by kernel_rfl) (fun _ _ _ h => h) (by assumption) (Or.inl ⟨by rfl, ?_⟩) ?_; rotate_left 1; · ((intro w hSw; (try dsimp only at hSw); go_split_ands; go_simp) <;> (try with_reducible rfl)))
  try simp only [Act.put, List.setIfInBounds_toArray, List.set_cons_zero, List.set_cons_succ]
  (refine wpZ_take (i := 8) (oi := ⟨some 13, .load 3 (.tmp 12), 3, _, _, none⟩) (v := ?_) rfl (by kernel_rfl) (fun _ _ _ h => h) (by assumption) (Or.inl ⟨by rfl, ?_⟩) ?_; rotate_left 1; · ((intro w hSw; (try dsimp only at hSw); go_split_ands; go_simp) <;> (try with_reducible rfl)))
  try simp only [Act.put, List.setIfInBounds_toArray, List.set_cons_zero, List.set_cons_succ]
  refine wpZ_one (i := 9) (oi := ⟨some 14, .call { callee := .value (.func 162), args := #[.tmp 5, .tmp 9, .tmp 13], argTypes := #[122, 3, 3] }, 4, _, _, none⟩) rfl (by kernel_rfl) (fun K hK => ?_)
  go_simp; refine (HLA.out _).mono ?_; rintro e w2 ⟨rfl, ht⟩; have HT := Lib.hid ht; clear ht; simp only [Option.isSome_some]; go_wp2_with fail
  refine hK.out _ _ (fun h => by simp at h) (fun _ => ?_)
  clear hK K
  try simp only [Act.put, List.setIfInBounds_toArray, List.set_cons_zero, List.set_cons_succ]
  refine wpZ_one (i := 10) (oi := ⟨some 15, .unOp .not 4 (.tmp 14), 4, _, _, none⟩) rfl (by kernel_rfl) (fun K hK => ?_)
  go_simp
  refine hK.out _ _ (fun h => by simp at h) (fun _ => ?_)
  clear hK K
  try simp only [Act.put, List.setIfInBounds_toArray, List.set_cons_zero, List.set_cons_succ]
  refine wpZ_done (by kernel_rfl) ?_ _
  clear f2 f3 HLA HF hHeld
  obtain ⟨S2, L2, h2, k2, ro2, hS2⟩ := HT.out
  simp only [Option.getD_some] at h2
  obtain ⟨hk, hk2, hfr, htop⟩ := HK.out
  obtain ⟨fB2, fc2, sv2, vv2, raws2, lv2, bv2, hf2⟩ := h2.drew.frm k f (by simpa [hfr] using hk) (by simpa [hfr] using htop)
  have m0 := hf2.m0
  have c0 := hf2.c0
  have z0 := h2.drew.sep.frozen hf2.cfg P.co
  have hi1 : IntKind.i64.wrap (((k + 1 : Nat) : Int) - 1) = (k : Int) := by rw [IntWalk.i64_in _ (by omega)]; omega
  obtain ⟨i0, hi, _, hz1, _⟩ := info_parts infoFr
  have hcut := slice_to (P := Tryz.prog) (t := 45) Tryz.underlying45 hi (some ⟨fB2, 0, none⟩) (k + 1) fc2 k (by omega) hf2.le
  obtain ⟨S3, L3, h3, k3, ro3, hS3⟩ := frames_cut h2.drew hf2
  have ro23 : Ro S w _ := (ro2.trans (⟨⟨Nat.le_refl _, rfl, rfl⟩, fun _ _ => rfl⟩ : Ro S2 w2 w2.drew) hS2).trans ro3 hS2
  obtain ⟨fv4, vv4, A4, N4, cc4, hs4⟩ := h3.stk
  have hs4d := cfg_done h3.drew hs4.cfg hs4.st
  have hkk : (C1.frs.take k).length = k := by rw [List.length_take, hfr, hk]; omega
  generalize hN : k + 1 = N at c0 hi1 hcut
  have HN := Lib.hid hN
  have q0 := hs4.c0
  have qm := hs4.m0
  have q1 := hs4.c1
  have q2 := hs4.c2
  have q3 := hs4.c3
  have q4 := hs4.c4
  have y0 := hs4.z P.co
  have y1 := hs4.z (P.co + 1)
  have y2 := hs4.z (P.co + 2)
  have y3 := hs4.z (P.co + 3)
  have y4 := hs4.z (P.co + 4)
  have hfv4 : fv4 = .slice (some ⟨fB2, 0, none⟩) k fc2 := by
    have e1 := World.cell?_setCell_same' w2.drew ⟨P.cB, P.co, none⟩ (.slice (some ⟨fB2, 0, none⟩) k fc2) (by rw [c0]; rfl)
    rw [q0] at e1
    injection e1
  subst hfv4
  have KC := Lib.hid (And.intro (k2.trans k3) (And.intro ro23 (And.intro (fun b hb => hS3 b (hS2 b hb)) (And.intro h3 hs4d))))
  clear h2 k2 ro2 hS2 h3 k3 ro3 hS3 ro23 hs4 hs4d hf2 hN hk hk2 hfr htop hi hz1 HT HK hkk
  go_wp2_with fail
  refine wp_region_z (fun w' => w'.cell? ⟨P.mB, 0, none⟩ = some (.pointer (some ⟨P.cB, P.co, none⟩)) ∧ w'.cell? ⟨P.cB, P.co, none⟩ = some (.slice (some ⟨fB2, 0, none⟩) N fc2)) (fun j => j == 21 || j == 22 || j == 23) (by kernel_rfl) ?_ (fun hHeld => ?_)
  · exact ⟨m0, c0⟩
  (refine wpZ_take (i := 0) (oi := ⟨some 16, .move (.tmp 0), 122, _, _, none⟩) (v := ?_) rfl (by kernel_rfl) (fun _ _ _ h => h) (by assumption) (Or.inl ⟨by rfl, ?_⟩) ?_; rotate_left 1; · ((intro w hSw; (try dsimp only at hSw); go_split_ands; go_simp) <;> (try with_reducible rfl)))
  try simp only [Act.put, List.setIfInBounds_toArray, List.set_cons_zero, List.set_cons_succ]
  (refine wpZ_take (i := 1) (oi := ⟨some 17, .nilCheck (.tmp 16), 0, _, _, none⟩) (v := ?_) rfl (by kernel_rfl) (fun _ _ _ h => h) (by assumption) (Or.inl ⟨by rfl, ?_⟩) ?_; rotate_left 1; · ((intro w hSw; (try dsimp only at hSw); go_split_ands; go_simp) <;> (try with_reducible rfl)))
  try simp only [Act.put, List.setIfInBounds_toArray, List.set_cons_zero, List.set_cons_succ]
  (refine wpZ_take (i := 2) (oi := ⟨some 18, .fieldAddr 124 (.tmp 17) 0, 0, _, _, none⟩) (v := ?_) rfl (by kernel_rfl) (fun _ _ _ h => h) (by assumption) (Or.inl ⟨by rfl, ?_⟩) ?_; rotate_left 1; · ((intro w hSw; (try dsimp only at hSw); go_split_ands; go_simp) <;> (try with_reducible rfl)))
  try simp only [Act.put, List.setIfInBounds_toArray, List.set_cons_zero, List.set_cons_succ]
  (refine wpZ_take (i := 3) (oi := ⟨some 19, .load 53 (.tmp 18), 53, _, _, none⟩) (v := ?_) rfl (by kernel_rfl) (fun _ _ _ h => h) (by assumption) (Or.inl ⟨by rfl, ?_⟩) ?_; rotate_left 1; · ((intro w hSw; (try dsimp only at hSw); go_split_ands; go_simp) <;> (try with_reducible rfl)))
  try simp only [Act.put, List.setIfInBounds_toArray, List.set_cons_zero, List.set_cons_succ]
  (refine wpZ_take (i := 4) (oi := ⟨some 20, .move (.tmp 0), 122, _, _, none⟩) (v := ?_) rfl (by kernel_rfl) (fun _ _ _ h => h) (by assumption) (Or.inl ⟨by rfl, ?_⟩) ?_; rotate_left 1; · ((intro w hSw; (try dsimp only at hSw); go_split_ands; go_simp) <;> (try with_reducible rfl)))
  try simp only [Act.put, List.setIfInBounds_toArray, List.set_cons_zero, List.set_cons_succ]
  (refine wpZ_take (i := 5) (oi := ⟨some 21, .nilCheck (.tmp 20), 0, _, _, none⟩) (v := ?_) rfl (by kernel_rfl) (fun _ _ _ h => h) (by assumption) (Or.inl ⟨by rfl, ?_⟩) ?_; rotate_left 1; · ((intro w hSw; (try dsimp only at hSw); go_split_ands; go_simp) <;> (try with_reducible rfl)))
  try simp only [Act.put, List.setIfInBounds_toArray, List.set_cons_zero, List.set_cons_succ]
  (refine wpZ_take (i := 6) (oi := ⟨some 22, .fieldAddr 124 (.tmp 21) 0, 0, _, _, none⟩) (v := ?_) rfl (by kernel_rfl) (fun _ _ _ h => h) (by assumption) (Or.inl ⟨by rfl, ?_⟩) ?_; rotate_left 1; · ((intro w hSw; (try dsimp only at hSw); go_split_ands; go_simp) <;> (try with_reducible rfl)))
  try simp only [Act.put, List.setIfInBounds_toArray, List.set_cons_zero, List.set_cons_succ]
  (refine wpZ_take (i := 7) (oi := ⟨some 23, .load 53 (.tmp 22), 53, _, _, none⟩) (v := ?_) rfl (by kernel_rfl) (fun _ _ _ h => h) (by assumption) (Or.inl ⟨by rfl, ?_⟩) ?_; rotate_left 1; · ((intro w hSw; (try dsimp only at hSw); go_split_ands; go_simp) <;> (try with_reducible rfl)))
  try simp only [Act.put, List.setIfInBounds_toArray, List.set_cons_zero, List.set_cons_succ]
  (refine wpZ_take (i := 8) (oi := ⟨some 24, .nilCheck (.tmp 23), 0, _, _, none⟩) (v := ?_) rfl (by kernel_rfl) (fun _ _ _ h => h) (by assumption) (Or.inl ⟨by rfl, ?_⟩) ?_; rotate_left 1; · ((intro w hSw; (try dsimp only at hSw); go_split_ands; go_simp) <;> (try with_reducible rfl)))
  try simp only [Act.put, List.setIfInBounds_toArray, List.set_cons_zero, List.set_cons_succ]
  (refine wpZ_take (i := 9) (oi := ⟨some 25, .fieldAddr 48 (.tmp 24) 0, 0, _, _, none⟩) (v := ?_) rfl (by kernel_rfl) (fun _ _ _ h => h) (by assumption) (Or.inl ⟨by rfl, ?_⟩) ?_; rotate_left 1; · ((intro w hSw; (try dsimp only at hSw); go_split_ands; go_simp) <;> (try with_reducible rfl)))
  try simp only [Act.put, List.setIfInBounds_toArray, List.set_cons_zero, List.set_cons_succ]
  (refine wpZ_take (i := 10) (oi := ⟨some 26, .load 45 (.tmp 25), 45, _, _, none⟩) (v := ?_) rfl (by kernel_rfl) (fun _ _ _ h => h) (by assumption) (Or.inl ⟨by rfl, ?_⟩) ?_; rotate_left 1; · ((intro w hSw; (try dsimp only at hSw); go_split_ands; go_simp) <;> (try with_reducible rfl)))
  try simp only [Act.put, List.setIfInBounds_toArray, List.set_cons_zero, List.set_cons_succ]
  (refine wpZ_take (i := 11) (oi := ⟨some 27, .move (.tmp 0), 122, _, _, none⟩) (v := ?_) rfl (by kernel_rfl) (fun _ _ _ h => h) (by assumption) (Or.inl ⟨by rfl, ?_⟩) ?_; rotate_left 1; · ((intro w hSw; (try dsimp only at hSw); go_split_ands; go_simp) <;> (try with_reducible rfl)))
  try simp only [Act.put, List.setIfInBounds_toArray, List.set_cons_zero, List.set_cons_succ]
  (refine wpZ_take (i := 12) (oi := ⟨some 28, .nilCheck (.tmp 27), 0, _, _, none⟩) (v := ?_) rfl (by kernel_rfl) (fun _ _ _ h => h) (by assumption) (Or.inl ⟨by rfl, ?_⟩) ?_; rotate_left 1; · ((intro w hSw; (try dsimp only at hSw); go_split_ands; go_simp) <;> (try with_reducible rfl)))
  try simp only [Act.put, List.setIfInBounds_toArray, List.set_cons_zero, List.set_cons_succ]
  (refine wpZ_take (i := 13) (oi := ⟨some 29, .fieldAddr 124 (.tmp 28) 0, 0, _, _, none⟩) (v := ?_) rfl (by kernel_rfl) (fun _ _ _ h => h) (by assumption) (Or.inl ⟨by rfl, ?_⟩) ?_; rotate_left 1; · ((intro w hSw; (try dsimp only at hSw); go_split_ands; go_simp) <;> (try with_reducible rfl)))
  try simp only [Act.put, List.setIfInBounds_toArray, List.set_cons_zero, List.set_cons_succ]
  (refine wpZ_take (i := 14) (oi := ⟨some 30, .load 53 (.tmp 29), 53, _, _, none⟩) (v := ?_) rfl (by kernel_rfl) (fun _ _ _ h => h) (by assumption) (Or.inl ⟨by rfl, ?_⟩) ?_; rotate_left 1; · ((intro w hSw; (try dsimp only at hSw); go_split_ands; go_simp) <;> (try with_reducible rfl)))
  try simp only [Act.put, List.setIfInBounds_toArray, List.set_cons_zero, List.set_cons_succ]
  (refine wpZ_take (i := 15) (oi := ⟨some 31, .nilCheck (.tmp 30), 0, _, _, none⟩) (v := ?_) rfl (by kernel_rfl) (fun _ _ _ h => h) (by assumption) (Or.inl ⟨by rfl, ?_⟩) ?_; rotate_left 1; · ((intro w hSw; (try dsimp only at hSw); go_split_ands; go_simp) <;> (try with_reducible rfl)))
  try simp only [Act.put, List.setIfInBounds_toArray, List.set_cons_zero, List.set_cons_succ]
  (refine wpZ_take (i := 16) (oi := ⟨some 32, .fieldAddr 48 (.tmp 31) 0, 0, _, _, none⟩) (v := ?_) rfl (by kernel_rfl) (fun _ _ _ h => h) (by assumption) (Or.inl ⟨by rfl, ?_⟩) ?_; rotate_left 1; · ((intro w hSw; (try dsimp only at hSw); go_split_ands; go_simp) <;> (try with_reducible rfl)))
  try simp only [Act.put, List.setIfInBounds_toArray, List.set_cons_zero, List.set_cons_succ]
  (refine wpZ_take (i := 17) (oi := ⟨some 33, .load 45 (.tmp 32), 45, _, _, none⟩) (v := ?_) rfl (by kernel_rfl) (fun _ _ _ h => h) (by assumption) (Or.inl ⟨by rfl, ?_⟩) ?_; rotate_left 1; · ((intro w hSw; (try dsimp only at hSw); go_split_ands; go_simp) <;> (try with_reducible rfl)))
  try simp only [Act.put, List.setIfInBounds_toArray, List.set_cons_zero, List.set_cons_succ]
  (refine wpZ_take (i := 18) (oi := ⟨some 34, .call { callee := .builtin .len, args := #[.tmp 33], argTypes := #[45] }, 3, _, _, none⟩) (v := ?_) rfl (by kernel_rfl) (fun _ _ _ h => h) (by assumption) (Or.inl ⟨by rfl, ?_⟩) ?_; rotate_left 1; · ((intro w hSw; (try dsimp only at hSw); go_split_ands; go_simp) <;> (try with_reducible rfl)))
  try simp only [Act.put, List.setIfInBounds_toArray, List.set_cons_zero, List.set_cons_succ]
  (refine wpZ_take (i := 19) (oi := ⟨some 35, .binOp .sub 3 (.tmp 34) (.const (.int .i64 1)) 3, 3, _, _, none⟩) (v := ?_) rfl (by kernel_rfl) (fun _ _ _ h => h) (by assumption) (Or.inl ⟨by rfl, ?_⟩) ?_; rotate_left 1; · ((intro w hSw; (try dsimp only at hSw); go_split_ands; go_simp) <;> (try with_reducible rfl)))
  try simp only [Act.put, List.setIfInBounds_toArray, List.set_cons_zero, List.set_cons_succ]
  (refine wpZ_take (i := 20) (oi := ⟨some 36, .slice 45 (.tmp 26) none (some (.tmp 35)) none, 45, _, _, none⟩) (v := ?_) rfl (by kernel_rfl) (fun _ _ _ h => h) (by assumption) (Or.inl ⟨by rfl, ?_⟩) ?_; rotate_left 1; · ((intro w hSw; (try dsimp only at hSw); go_split_ands; go_simp) <;> (try with_reducible rfl)))
  try simp only [Act.put, List.setIfInBounds_toArray, List.set_cons_zero, List.set_cons_succ]
  refine wpZ_one (i := 21) (oi := ⟨some 37, .nilCheck (.tmp 19), 0, _, _, none⟩) rfl (by kernel_rfl) (fun K hK => ?_)
  go_simp
  refine hK.out _ _ (fun h => by simp at h) (fun _ => ?_)
  clear hK K
  try simp only [Act.put, List.setIfInBounds_toArray, List.set_cons_zero, List.set_cons_succ]
  refine wpZ_one (i := 22) (oi := ⟨some 38, .fieldAddr 48 (.tmp 37) 0, 0, _, _, none⟩) rfl (by kernel_rfl) (fun K hK => ?_)
  go_simp
  refine hK.out _ _ (fun h => by simp at h) (fun _ => ?_)
  clear hK K
  try simp only [Act.put, List.setIfInBounds_toArray, List.set_cons_zero, List.set_cons_succ]
  refine wpZ_one (i := 23) (oi := ⟨none, .store 45 (.tmp 38) (.tmp 36), 0, _, _, none⟩) rfl (by kernel_rfl) (fun K hK => ?_)
  go_simp
  refine hK.out _ _ (fun h => by simp at h) (fun _ => ?_)
  clear hK K
  try simp only [Act.put, List.setIfInBounds_toArray, List.set_cons_zero, List.set_cons_succ]
  refine wpZ_done (by kernel_rfl) ?_ _
  clear m0 z0 c0 hcut
  have hw : w2.drew.setCell ⟨P.cB, P.co, none⟩ (.slice (some ⟨fB2, 0, none⟩) k fc2) = (w2.setCell ⟨P.cB, P.co, none⟩ (.slice (some ⟨fB2, 0, none⟩) k fc2)).drew := rfl
  rw [hw] at q0 qm q1 q2 q3 q4 y0 y1 y2 y3 y4 KC
  clear hw
  generalize (w2.setCell ⟨P.cB, P.co, none⟩ (.slice (some ⟨fB2, 0, none⟩) k fc2)).drew = w3 at *
  obtain ⟨kk, ro23, hS23, h3, hd4⟩ := KC.out
  by_cases hk0 : k = 0
  · subst hk0
    have FIN := Lib.hid (To.trans kk ro23 hS23 (To.trans (Keep.refl _ _) (⟨⟨Nat.le_refl _, rfl, rfl⟩, fun _ _ => rfl⟩ : Ro S3 w3 w3.drew) (fun _ h => h) hd4))
    clear kk ro23 hS23 h3 hd4 KC
    go_wp2_with fail
    refine wp_region_z (fun w' => w'.cell? ⟨P.mB, 0, none⟩ = some (.pointer (some ⟨P.cB, P.co, none⟩)) ∧ w'.cell? ⟨P.cB, P.co + 1, none⟩ = some (.slice A4 N4 cc4)) (fun j => j == 12 || j == 13) (by kernel_rfl) ?_ (fun hHeld => ?_)
    · exact ⟨qm, q1⟩
    (refine wpZ_take (i := 0) (oi := ⟨some 48, .move (.tmp 0), 122, _, _, none⟩) (v := ?_) rfl (by kernel_rfl) (fun _ _ _ h => h) (by assumption) (Or.inl ⟨by rfl, ?_⟩) ?_; rotate_left 1; · ((intro w hSw; (try dsimp only at hSw); go_split_ands; go_simp) <;> (try with_reducible rfl)))
    try simp only [Act.put, List.setIfInBounds_toArray, List.set_cons_zero, List.set_cons_succ]
    (refine wpZ_take (i := 1) (oi := ⟨some 49, .nilCheck (.tmp 48), 0, _, _, none⟩) (v := ?_) rfl (by kernel_rfl) (fun _ _ _ h => h) (by assumption) (Or.inl ⟨by rfl, ?_⟩) ?_; rotate_left 1; · ((intro w hSw; (try dsimp only at hSw); go_split_ands; go_simp) <;> (try with_reducible rfl)))
    try simp only [Act.put, List.setIfInBounds_toArray, List.set_cons_zero, List.set_cons_succ]
    (refine wpZ_take (i := 2) (oi := ⟨some 50, .fieldAddr 124 (.tmp 49) 0, 0, _, _, none⟩) (v := ?_) rfl (by kernel_rfl) (fun _ _ _ h => h) (by assumption) (Or.inl ⟨by rfl, ?_⟩) ?_; rotate_left 1; · ((intro w hSw; (try dsimp only at hSw); go_split_ands; go_simp) <;> (try with_reducible rfl)))
    try simp only [Act.put, List.setIfInBounds_toArray, List.set_cons_zero, List.set_cons_succ]
    (refine wpZ_take (i := 3) (oi := ⟨some 51, .load 53 (.tmp 50), 53, _, _, none⟩) (v := ?_) rfl (by kernel_rfl) (fun _ _ _ h => h) (by assumption) (Or.inl ⟨by rfl, ?_⟩) ?_; rotate_left 1; · ((intro w hSw; (try dsimp only at hSw); go_split_ands; go_simp) <;> (try with_reducible rfl)))
    try simp only [Act.put, List.setIfInBounds_toArray, List.set_cons_zero, List.set_cons_succ]
    (refine wpZ_take (i := 4) (oi := ⟨some 52, .move (.tmp 0), 122, _, _, none⟩) (v := ?_) rfl (by kernel_rfl) (fun _ _ _ h => h) (by assumption) (Or.inl ⟨by rfl, ?_⟩) ?_; rotate_left 1; · ((intro w hSw; (try dsimp only at hSw); go_split_ands; go_simp) <;> (try with_reducible rfl)))
    try simp only [Act.put, List.setIfInBounds_toArray, List.set_cons_zero, List.set_cons_succ]
    (refine wpZ_take (i := 5) (oi := ⟨some 53, .nilCheck (.tmp 52), 0, _, _, none⟩) (v := ?_) rfl (by kernel_rfl) (fun _ _ _ h => h) (by assumption) (Or.inl ⟨by rfl, ?_⟩) ?_; rotate_left 1; · ((intro w hSw; (try dsimp only at hSw); go_split_ands; go_simp) <;> (try with_reducible rfl)))
    try simp only [Act.put, List.setIfInBounds_toArray, List.set_cons_zero, List.set_cons_succ]
    (refine wpZ_take (i := 6) (oi := ⟨some 54, .fieldAddr 124 (.tmp 53) 0, 0, _, _, none⟩) (v := ?_) rfl (by kernel_rfl) (fun _ _ _ h => h) (by assumption) (Or.inl ⟨by rfl, ?_⟩) ?_; rotate_left 1; · ((intro w hSw; (try dsimp only at hSw); go_split_ands; go_simp) <;> (try with_reducible rfl)))
    try simp only [Act.put, List.setIfInBounds_toArray, List.set_cons_zero, List.set_cons_succ]
    (refine wpZ_take (i := 7) (oi := ⟨some 55, .load 53 (.tmp 54), 53, _, _, none⟩) (v := ?_) rfl (by kernel_rfl) (fun _ _ _ h => h) (by assumption) (Or.inl ⟨by rfl, ?_⟩) ?_; rotate_left 1; · ((intro w hSw; (try dsimp only at hSw); go_split_ands; go_simp) <;> (try with_reducible rfl)))
    try simp only [Act.put, List.setIfInBounds_toArray, List.set_cons_zero, List.set_cons_succ]
    (refine wpZ_take (i := 8) (oi := ⟨some 56, .nilCheck (.tmp 55), 0, _, _, none⟩) (v := ?_) rfl (by kernel_rfl) (fun _ _ _ h => h) (by assumption) (Or.inl ⟨by rfl, ?_⟩) ?_; rotate_left 1; · ((intro w hSw; (try dsimp only at hSw); go_split_ands; go_simp) <;> (try with_reducible rfl)))
    try simp only [Act.put, List.setIfInBounds_toArray, List.set_cons_zero, List.set_cons_succ]
    (refine wpZ_take (i := 9) (oi := ⟨some 57, .fieldAddr 48 (.tmp 56) 1, 0, _, _, none⟩) (v := ?_) rfl (by kernel_rfl) (fun _ _ _ h => h) (by assumption) (Or.inl ⟨by rfl, ?_⟩) ?_; rotate_left 1; · ((intro w hSw; (try dsimp only at hSw); go_split_ands; go_simp) <;> (try with_reducible rfl)))
    try simp only [Act.put, List.setIfInBounds_toArray, List.set_cons_zero, List.set_cons_succ]
    (refine wpZ_take (i := 10) (oi := ⟨some 58, .load 23 (.tmp 57), 23, _, _, none⟩) (v := ?_) rfl (by kernel_rfl) (fun _ _ _ h => h) (by assumption) (Or.inl ⟨by rfl, ?_⟩) ?_; rotate_left 1; · ((intro w hSw; (try dsimp only at hSw); go_split_ands; go_simp) <;> (try with_reducible rfl)))
    try simp only [Act.put, List.setIfInBounds_toArray, List.set_cons_zero, List.set_cons_succ]
    (refine wpZ_take (i := 11) (oi := ⟨some 59, .build 48 #[(2, .const (.bool true)), (4, .tmp 58)], 48, _, _, none⟩) (v := ?_) rfl (by kernel_rfl) (fun _ _ _ h => h) (by assumption) (Or.inl ⟨by rfl, ?_⟩) ?_; rotate_left 1; · ((intro w hSw; (try dsimp only at hSw); go_split_ands; go_simp) <;> (try with_reducible rfl)))
    try simp only [Act.put, List.setIfInBounds_toArray, List.set_cons_zero, List.set_cons_succ]
    refine wpZ_one (i := 12) (oi := ⟨some 60, .nilCheck (.tmp 51), 0, _, _, none⟩) rfl (by kernel_rfl) (fun K hK => ?_)
    go_simp
    refine hK.out _ _ (fun h => by simp at h) (fun _ => ?_)
    clear hK K
    try simp only [Act.put, List.setIfInBounds_toArray, List.set_cons_zero, List.set_cons_succ]
    refine wpZ_one (i := 13) (oi := ⟨none, .store 48 (.tmp 60) (.tmp 59), 0, _, _, none⟩) rfl (by kernel_rfl) (fun K hK => ?_)
    go_simp
    refine hK.out _ _ (fun h => by simp at h) (fun _ => ?_)
    clear hK K
    try simp only [Act.put, List.setIfInBounds_toArray, List.set_cons_zero, List.set_cons_succ]
    refine wpZ_done (by kernel_rfl) ?_ _
    go_wp2
    go_end0
    exact ⟨rfl, FIN.out⟩
  · have d0 : ((k : Int) == 0) = false := beq_eq_false_iff_ne.2 (by omega)
    have FIN := Lib.hid (To.trans kk ro23 hS23 (To.refl h3))
    have HK0 := Lib.hid hk0
    clear kk ro23 hS23 h3 hd4 KC hk0
    go_wp2
    go_end0
    refine ⟨rfl, ?_⟩
    unfold leftC
    rw [if_neg HK0.out]
    exact FIN.out
/-- leaves, told by leaveC. -/
theorem leaves_c (h : Md w S L u P M s) {k fB fc : Nat} {f : Fr} {sv vv lv bv : Value} {raws : List (Value × Value)} (hf : Frm w L u P s k f fB fc sv vv raws lv bv) (hk : s.c.frs.length = k + 1) (hk2 : k ≤ 1000000)
    (hn2 : -4611686018427387904 < f.ar ∧ f.ar < 4611686018427387904) (hb : s.c.st.length ≤ 1000000000) :
    Calls Tryz.prog 100 #[.pointer (some ⟨P.mB, 0, none⟩)] w fun e w' => e = .returned (.tuple #[]) ∧ To w S L u P M w' { s with c := leaveC s.c f } := by
  cases hr : landsC s.c f.ar f.ht with
  | none =>
    have : leaveC s.c f = endsC 17 := by unfold leaveC; rw [hr]
    rw [this]
    exact leaves_no h hf hk2 hn2 hb hr
  | some C1 =>
    have hfr : C1.frs = s.c.frs := by
      unfold landsC popsC at hr
      split at hr
      · cases hr
      · rename_i l C' hp
        split at hp
        · cases hp
        · injection hp with hp
          injection hp with _ hp
          subst hp
          split at hr
          · cases hr
          · injection hr with hr
            rw [← hr]
    have : leaveC s.c f = leftC k C1 := by
      unfold leaveC leftC
      rw [hr]
      have hl : C1.frs.length = k + 1 := by rw [hfr, hk]
      simp only [hl, Nat.add_sub_cancel]
      by_cases h0 : k = 0
      · subst h0; simp
      · rw [if_neg h0]
        cases ht : C1.frs.take k with
        | nil =>
          have := congrArg List.length ht
          rw [List.length_take, hl, List.length_nil] at this
          omega
        | cons x r => rfl
    rw [this]
    exact leaves_yes h hf hk hk2 hn2 hb C1 hr hfr
end Go.Proofs.YtjbdldekllffkaaGreatDoor
/- step's machine: frames written; closes, skips, calls. -/
set_option linter.unusedVariables false
namespace Go.Proofs.YtjbdldekllffkaaGreatDoor
open Go.RowKit Go.Sep Go.St
variable {w : World} {S : Nat → Prop} {L : Key → Option Ck} {u : Nat} {P : Ptrs} {M : Mo} {s : Ms}
theorem Row.set {w : World} {e sz b n c : Nat} {xs : List Value} (h : Row w e sz (.slice (some ⟨b, 0, none⟩) n c) xs) (i : Nat) (hi : i < xs.length) (v : Value) :
    Row (w.setCell ⟨b, i, none⟩ v) e sz (.slice (some ⟨b, 0, none⟩) n c) (xs.set i v) ∧ w.grownBy (w.setCell ⟨b, i, none⟩ v) (rowBlock (.slice (some ⟨b, 0, none⟩) n c)) := by
  obtain ⟨A, n', c', e1, h1, hA, h2, h3, h4⟩ := h
  cases e1
  have hc0 : 0 < c := by
    rcases Nat.eq_zero_or_pos c with h0 | h0
    · subst h0
      obtain rfl : n = 0 := by omega
      simp at h1
      subst h1
      simp at hi
    · exact h0
  obtain ⟨g, cur, e2, hg, hcs, ht⟩ := h4 hc0
  cases e2
  have hh := setCell_heap i v hg (b := b)
  have hlen : xs.length ≤ cur.size := by
    have := congrArg List.length ht
    rw [List.length_take, Array.length_toList] at this
    omega
  refine ⟨⟨_, n, c, rfl, by rw [List.length_set]; exact h1, (fun h => nomatch h), h2, h3, fun _ => ⟨b, _, rfl, by rw [hh, if_pos rfl], by rw [Array.size_setIfInBounds]; exact hcs, ?_⟩⟩, ⟨rfl, rfl, rfl, by simp [World.setCell], fun k hk hne => ?_⟩⟩
  · rw [Array.toList_setIfInBounds, List.take_set, ht]
  · rw [hh, if_neg]
    rintro rfl
    exact hne (by simp [rowBlock]; omega)
theorem zip_set {α β : Type} : ∀ (l : List α) (r : List β) (k : Nat) (x : α) (y : β), (l.zip r).set k (x, y) = (l.set k x).zip (r.set k y)
  | [], r, k, x, y => by simp
  | a :: l, [], k, x, y => by cases k <;> simp
  | a :: l, b :: r, 0, x, y => by simp
  | a :: l, b :: r, k + 1, x, y => by simp [zip_set l r k x y]
/-- The last frame is another one. -/
theorem frame_put {w1 : World} {L1 : Key → Option Ck} {k fB fc : Nat} {f : Fr} {sv vv lv bv : Value} {raws : List (Value × Value)} (h : Md w S L u P M s) (hf : Frm w L u P s k f fB fc sv vv raws lv bv) (hk : s.c.frs.length = k + 1)
    (hs : Sep w1 S L1) (ro : Ro S w w1) (hK : ∀ q, q ≠ .lab u k → L1 q = L q) (f' : Fr) (bv' : Value) (hl : L1 (.lab u k) = some (.rw 120 3 bv' (labC f'.lab))) (hloc : f'.loc = f.loc)
    (j : Nat) (v : Value) (hj : j < 6) (he : frC f' lv bv' = (frC f lv bv).set j v) :
    To w S L u P M (w1.setCell ⟨fB, k * 6 + j, none⟩ v) { s with c := setTop s.c f' } := by
  have hfr : L1 (.fr u) = some (.rw 118 6 (.slice (some ⟨fB, 0, none⟩) (k + 1) fc) ((s.c.frs.zip raws).flatMap frG)) := (hK _ (by simp)).trans hf.fr
  have hlen : ((s.c.frs.zip raws).flatMap frG).length = (k + 1) * 6 := by rw [flat_len frG 6 frG_len, List.length_zip, hf.len, Nat.min_self, hk]
  have hz : (s.c.frs.zip raws)[k]? = some (f, lv, bv) := (List.getElem?_zip_eq_some (z := (f, lv, bv))).2 ⟨hf.top, hf.raw⟩
  obtain ⟨r1, g1⟩ := Row.set (hs.holds _ _ hfr) (k * 6 + j) (by rw [hlen]; omega) v
  have hset : ((s.c.frs.zip raws).flatMap frG).set (k * 6 + j) v = (((setTop s.c f').frs).zip (raws.set k (lv, bv'))).flatMap frG := by
    rw [flat_set frG 6 frG_len _ k j (f, lv, bv) (f', lv, bv') v hj hz he]
    congr 1
    simp only [setTop, hk, Nat.add_sub_cancel]
    exact zip_set _ _ _ _ _
  rw [hset] at r1
  obtain ⟨s2, ro2⟩ := hs.grow hfr r1 g1 (.inl rfl)
  refine ⟨S, _, h.recfg s2 (ro.trans' ro2) (fun _ h => h) ⟨.slice (some ⟨fB, 0, none⟩) (k + 1) fc, sv, vv, ?_, ⟨raws.set k (lv, bv'), ?_, ?_, fun k' f1 r1 x y => ?_⟩, ?_, ?_⟩ (cf_upd (fun q hq => hK q (by rintro rfl; cases hq)) rfl), ?_, ro.trans' ro2, fun _ h => h⟩
  · rw [upd_other _ _ (by simp), hK _ (by simp)]; exact hf.cfg
  · rw [List.length_set, hf.len]; simp [setTop]
  · rw [upd_same]; rfl
  · rw [upd_other _ _ (by simp), upd_other _ _ (by simp)]
    have x : (s.c.frs.set (s.c.frs.length - 1) f')[k']? = some f1 := x
    rw [hk, Nat.add_sub_cancel, List.getElem?_set] at x
    rw [List.getElem?_set] at y
    by_cases e : k = k'
    · subst e
      rw [if_pos rfl, if_pos (by omega)] at x
      rw [if_pos rfl, if_pos (by rw [hf.len]; omega)] at y
      cases x
      cases y
      exact ⟨by rw [hK _ (by simp)]; show _ = some (Ck.rw 58 1 lv (ints .u64 f'.loc)); rw [hloc]; exact hf.loc, hl⟩
    · rw [if_neg e] at x y
      obtain ⟨a, b⟩ := hf.all k' f1 r1 x y
      exact ⟨(hK _ (by simp)).trans a, (hK _ (by simp; exact fun h => e h.symm)).trans b⟩
  · rw [upd_other _ _ (by simp), hK _ (by simp)]; exact hf.st
  · rw [upd_other _ _ (by simp), hK _ (by simp)]; exact hf.va
  · refine Keep.upd (fun q hq => hK q (by rintro rfl; exact hq rfl)) rfl
/-- The same, and how the frames lie then. -/
def ToF (w : World) (S : Nat → Prop) (L : Key → Option Ck) (u : Nat) (P : Ptrs) (M : Mo) (w' : World) (s : Ms) (k : Nat) (f : Fr) (fB fc : Nat) (sv vv lv bv : Value) : Prop :=
  ∃ S' L' raws, Md w' S' L' u P M s ∧ Keep u L L' ∧ Ro S w w' ∧ (∀ b, S b → S' b) ∧ Frm w' L' u P s k f fB fc sv vv raws lv bv
theorem ToF.to {w' : World} {k fB fc : Nat} {f : Fr} {sv vv lv bv : Value} (h : ToF w S L u P M w' s k f fB fc sv vv lv bv) : To w S L u P M w' s := by
  obtain ⟨S', L', raws, a, b, c, d, _⟩ := h
  exact ⟨S', L', a, b, c, d⟩
theorem frame_putF {w1 : World} {L1 : Key → Option Ck} {k fB fc : Nat} {f : Fr} {sv vv lv bv : Value} {raws : List (Value × Value)} (h : Md w S L u P M s) (hf : Frm w L u P s k f fB fc sv vv raws lv bv) (hk : s.c.frs.length = k + 1)
    (hs : Sep w1 S L1) (ro : Ro S w w1) (hK : ∀ q, q ≠ .lab u k → L1 q = L q) (f' : Fr) (bv' : Value) (hl : L1 (.lab u k) = some (.rw 120 3 bv' (labC f'.lab))) (hloc : f'.loc = f.loc)
    (j : Nat) (v : Value) (hj : j < 6) (he : frC f' lv bv' = (frC f lv bv).set j v) :
    ToF w S L u P M (w1.setCell ⟨fB, k * 6 + j, none⟩ v) { s with c := setTop s.c f' } k f' fB fc sv vv lv bv' := by
  have hfr : L1 (.fr u) = some (.rw 118 6 (.slice (some ⟨fB, 0, none⟩) (k + 1) fc) ((s.c.frs.zip raws).flatMap frG)) := (hK _ (by simp)).trans hf.fr
  have hlen : ((s.c.frs.zip raws).flatMap frG).length = (k + 1) * 6 := by rw [flat_len frG 6 frG_len, List.length_zip, hf.len, Nat.min_self, hk]
  have hz : (s.c.frs.zip raws)[k]? = some (f, lv, bv) := (List.getElem?_zip_eq_some (z := (f, lv, bv))).2 ⟨hf.top, hf.raw⟩
  obtain ⟨r1, g1⟩ := Row.set (hs.holds _ _ hfr) (k * 6 + j) (by rw [hlen]; omega) v
  have hset : ((s.c.frs.zip raws).flatMap frG).set (k * 6 + j) v = (((setTop s.c f').frs).zip (raws.set k (lv, bv'))).flatMap frG := by
    rw [flat_set frG 6 frG_len _ k j (f, lv, bv) (f', lv, bv') v hj hz he]
    congr 1
    simp only [setTop, hk, Nat.add_sub_cancel]
    exact zip_set _ _ _ _ _
  rw [hset] at r1
  obtain ⟨s2, ro2⟩ := hs.grow hfr r1 g1 (.inl rfl)
  have hM : Md (w1.setCell ⟨fB, k * 6 + j, none⟩ v) S (upd L1 (.fr u) (.rw 118 6 (.slice (some ⟨fB, 0, none⟩) (k + 1) fc) ((((setTop s.c f').frs).zip (raws.set k (lv, bv'))).flatMap frG))) u P M { s with c := setTop s.c f' } := by
    refine h.recfg s2 (ro.trans' ro2) (fun _ h => h) ⟨.slice (some ⟨fB, 0, none⟩) (k + 1) fc, sv, vv, ?_, ⟨raws.set k (lv, bv'), ?_, ?_, fun k' f1 r1 x y => ?_⟩, ?_, ?_⟩ (cf_upd (fun q hq => hK q (by rintro rfl; cases hq)) rfl)
    · rw [upd_other _ _ (by simp), hK _ (by simp)]; exact hf.cfg
    · rw [List.length_set, hf.len]; simp [setTop]
    · rw [upd_same]; rfl
    · rw [upd_other _ _ (by simp), upd_other _ _ (by simp)]
      have x : (s.c.frs.set (s.c.frs.length - 1) f')[k']? = some f1 := x
      rw [hk, Nat.add_sub_cancel, List.getElem?_set] at x
      rw [List.getElem?_set] at y
      by_cases e : k = k'
      · subst e
        rw [if_pos rfl, if_pos (by omega)] at x
        rw [if_pos rfl, if_pos (by rw [hf.len]; omega)] at y
        cases x
        cases y
        exact ⟨by rw [hK _ (by simp)]; show _ = some (Ck.rw 58 1 lv (ints .u64 f'.loc)); rw [hloc]; exact hf.loc, hl⟩
      · rw [if_neg e] at x y
        obtain ⟨a, b⟩ := hf.all k' f1 r1 x y
        exact ⟨(hK _ (by simp)).trans a, (hK _ (by simp; exact fun h => e h.symm)).trans b⟩
    · rw [upd_other _ _ (by simp), hK _ (by simp)]; exact hf.st
    · rw [upd_other _ _ (by simp), hK _ (by simp)]; exact hf.va
  have hk' : ({ s with c := setTop s.c f' } : Ms).c.frs.length = k + 1 := by simp [setTop, hk]
  have ht' : ({ s with c := setTop s.c f' } : Ms).c.frs[k]? = some f' := by
    simp only [setTop, hk, Nat.add_sub_cancel]
    rw [List.getElem?_set_self (by omega)]
  obtain ⟨fB2, fc2, sv2, vv2, raws2, lv2, bv2, hf2⟩ := hM.frm k f' hk' ht'
  have e1 := hf2.cfg
  rw [upd_other _ _ (by simp), hK _ (by simp), hf.cfg] at e1
  simp only [Option.some.injEq, Ck.cl.injEq, List.cons.injEq, Value.slice.injEq, Addr.mk.injEq, and_true, true_and] at e1
  obtain ⟨⟨rfl, rfl⟩, rfl, _, _, rfl⟩ := e1
  have e2 := hf2.loc
  rw [upd_other _ _ (by simp), hK _ (by simp), hf.loc] at e2
  simp only [Option.some.injEq, Ck.rw.injEq, true_and] at e2
  obtain ⟨rfl, _⟩ := e2
  have e3 := hf2.lab
  rw [upd_other _ _ (by simp), hl] at e3
  simp only [Option.some.injEq, Ck.rw.injEq, true_and, and_true] at e3
  obtain rfl := e3
  exact ⟨S, _, raws2, hM, (Keep.upd (fun q hq => hK q (by rintro rfl; exact hq rfl)) rfl), ro.trans' ro2, fun _ h => h, hf2⟩
theorem frame_numF {k fB fc : Nat} {f : Fr} {sv vv lv bv : Value} {raws : List (Value × Value)} (h : Md w S L u P M s) (hf : Frm w L u P s k f fB fc sv vv raws lv bv) (hk : s.c.frs.length = k + 1) (n : Int) :
    ToF w S L u P M (w.setCell ⟨fB, k * 6 + 1, none⟩ (.int .i64 n)) { s with c := setTop s.c { f with at_ := n } } k { f with at_ := n } fB fc sv vv lv bv :=
  frame_putF h hf hk h.sep (Ro.refl _ _) (fun _ _ => rfl) { f with at_ := n } bv hf.lab rfl 1 _ (by omega) rfl
/-- One number of the last frame is set. -/
theorem frame_num {k fB fc : Nat} {f : Fr} {sv vv lv bv : Value} {raws : List (Value × Value)} (h : Md w S L u P M s) (hf : Frm w L u P s k f fB fc sv vv raws lv bv) (hk : s.c.frs.length = k + 1) (n : Int) :
    To w S L u P M (w.setCell ⟨fB, k * 6 + 1, none⟩ (.int .i64 n)) { s with c := setTop s.c { f with at_ := n } } :=
  frame_put h hf hk h.sep (Ro.refl _ _) (fun _ _ => rfl) { f with at_ := n } bv hf.lab rfl 1 _ (by omega) rfl
theorem infoLb : (Tryz.prog.info? 120).map (fun i => (i.zero, i.size, i.bytes)) = some (some (.agg #[.int .i64 0, .int .i64 0, .int .i64 0]), 3, 24) := by kernel_rfl
theorem labC_len (l : List Lb) : (labC l).length = l.length * 3 := flat_len _ 3 (fun _ => rfl) l
theorem Frm.lab_form {k fB fc : Nat} {f : Fr} {sv vv lv bv : Value} {raws : List (Value × Value)} (h : Md w S L u P M s) (hf : Frm w L u P s k f fB fc sv vv raws lv bv) : ∃ A c, bv = .slice A f.lab.length c ∧ f.lab.length ≤ c ∧ Row w 120 3 (.slice A f.lab.length c) (labC f.lab) := by
  have hr := h.sep.holds _ _ hf.lab
  have hr' : Row w 120 3 bv (labC f.lab) := hr
  obtain ⟨A, n, c, rfl, h1, h2, h3, h4, h5⟩ := hr
  rw [labC_len] at h1
  obtain rfl : n = f.lab.length := by omega
  exact ⟨A, c, rfl, h3, hr'⟩
/-- The last frame's labels are cut. -/
theorem labs_cut {k fB fc : Nat} {f : Fr} {sv vv lv : Value} {A : Option Addr} {m0 c : Nat} {raws : List (Value × Value)} (h : Md w S L u P M s) (hf : Frm w L u P s k f fB fc sv vv raws lv (.slice A m0 c)) (hk : s.c.frs.length = k + 1) (m : Nat) (hm : m ≤ f.lab.length) (hm0 : m0 = f.lab.length) :
    To w S L u P M (w.setCell ⟨fB, k * 6 + 5, none⟩ (.slice A m c)) { s with c := setTop s.c { f with lab := f.lab.take m } } := by
  subst hm0
  have hr : Row w 120 3 (.slice A m c) (labC (f.lab.take m)) := by
    obtain ⟨A', n', c', hv, h1, hA, h2, h3, h4⟩ := h.sep.holds _ _ hf.lab
    cases hv
    refine ⟨A, m, c, rfl, by rw [labC_len, List.length_take]; omega, hA, by omega, h3, fun h0 => ?_⟩
    obtain ⟨g, cur, rfl, hg1, hc1, ht⟩ := h4 h0
    refine ⟨g, cur, rfl, hg1, hc1, ?_⟩
    have := congrArg (List.take (m * 3)) ht
    rw [List.take_take, Nat.min_eq_left (by omega)] at this
    rw [this]
    exact flat_take _ 3 (fun _ => rfl) f.lab m
  obtain ⟨s1, r1⟩ := h.sep.grow hf.lab hr ⟨rfl, rfl, rfl, Nat.le_refl _, fun _ _ _ => rfl⟩ (.inl (by cases A <;> rfl))
  exact frame_put h hf hk s1 r1 (fun q hq => upd_other _ _ hq) { f with lab := f.lab.take m } (.slice A m c) (upd_same _ _ _) rfl 5 _ (by omega) rfl
end Go.Proofs.YtjbdldekllffkaaGreatDoor
/- step's machine: closes, skips. -/
set_option linter.unusedVariables false
namespace Go.Proofs.YtjbdldekllffkaaGreatDoor
open Go.RowKit Go.Sep Go.St
variable {w : World} {S : Nat → Prop} {L : Key → Option Ck} {u : Nat} {P : Ptrs} {M : Mo} {s : Ms}
/-- What the last frame must be for a walk. -/
structure FrOk (f : Fr) : Prop where
  fn : 0 ≤ f.fn ∧ f.fn < 4294967296
  at_ : -1000000000 < f.at_ ∧ f.at_ < 1000000000
  ar : -4611686018427387904 < f.ar ∧ f.ar < 4611686018427387904
  ll : f.lab.length ≤ 1000000000
  lab : ∀ l ∈ f.lab, (-1000000000 < l.to ∧ l.to < 1000000000) ∧ (-4611686018427387904 < l.ar ∧ l.ar < 4611686018427387904)
set_option maxRecDepth 100000 in
theorem closes_c (h : Md w S L u P M s) {k fB fc : Nat} {f : Fr} {sv vv lv bv : Value} {raws : List (Value × Value)} (hf : Frm w L u P s k f fB fc sv vv raws lv bv) (hk : s.c.frs.length = k + 1) (hk2 : k ≤ 1000000)
    (ok : FrOk f) (hb : s.c.st.length ≤ 1000000000) :
    Calls Tryz.prog 97 #[.pointer (some ⟨P.mB, 0, none⟩)] w fun e w' => e = .returned (.tuple #[]) ∧ To w S L u P M w' { s with c := closeC s.c f } := by
  obtain ⟨A, c, rfl, hmc, _⟩ := hf.lab_form h
  have HF := Lib.hid (frame_c h hf hk2)
  have SD : ∀ m, Still w (w.drewN m) := fun m => (Still.refl w).drewN m
  have f5 := hf.cell 5 _ rfl
  have z5 := hf.frozen (k * 6 + 5)
  have hll := ok.ll
  unfold closeC
  generalize hm : f.lab.length = m at f5 hmc hll ⊢
  have hi1 : IntKind.i64.wrap ((m : Int) - 1) = (m : Int) - 1 := IntWalk.i64_in _ (by omega)
  by_cases h0 : m = 0
  · subst h0
    rw [if_pos rfl]
    have HE := Lib.hid (fun n => stuck_yes (h.still (SD n)))
    clear h hf hk hk2 ok hb hm SD hmc hll
    go_enter Tryz.func97, Tryz.ntmps97
    go_wp2_with fail
    refine HF.out.mono ?_
    rintro e w1 ⟨rfl, n1, rfl⟩
    go_wp2_with fail
    refine (HE.out _).mono ?_
    rintro e w2 ⟨rfl, ht⟩
    have HT := Lib.hid ht
    clear ht
    go_wp2
    exact bodyPost_ret (v := .tuple #[]) (by simp [results, Tryz.results97, go_sem]) rfl ⟨rfl, HT.out⟩
  rw [if_neg h0]
  obtain ⟨j, rfl⟩ : ∃ j, m = j + 1 := ⟨m - 1, by omega⟩
  have hi2 : IntKind.i64.wrap (((j + 1 : Nat) : Int) - 1) = (j : Int) := by rw [hi1]; omega
  clear hi1
  have hi1 := hi2
  have d0 : decide ((j : Int) < 0) = false := decide_eq_false (by omega)
  by_cases h1 : j = 0
  · rw [if_pos (by omega)]
    have d1 : ((j : Int) == 0) = true := beq_iff_eq.2 (by omega)
    have HE := Lib.hid (fun n => leaves_c (h.still (SD n)) (hf.still (SD n)) hk hk2 ok.ar hb)
    clear h hf hk hk2 ok hb hm SD hmc hll h0 h1
    generalize hN : (j + 1 : Nat) = N at f5 hi1 hi2
    clear hN hi2
    go_enter Tryz.func97, Tryz.ntmps97
    go_wp2_with fail
    refine HF.out.mono ?_
    rintro e w1 ⟨rfl, n1, rfl⟩
    go_wp2_with (go_at_call 52; (with_reducible refine (stuck_no _ _).mono ?_); rintro e w2 ⟨rfl, rfl⟩)
    refine (HE.out _).mono ?_
    rintro e w2 ⟨rfl, ht⟩
    have HT := Lib.hid ht
    clear ht
    go_wp2
    exact bodyPost_ret (v := .tuple #[]) (by simp [results, Tryz.results97, go_sem]) rfl ⟨rfl, HT.out⟩
  · rw [if_neg (by omega), Nat.add_sub_cancel]
    obtain ⟨i0, hi, _, hz1, _⟩ := info_parts infoLb
    have hcut := slice_to (P := Tryz.prog) (t := 116) Tryz.underlying116 hi A (j + 1) c j (by omega) hmc
    have d1 : ((j : Int) == 0) = false := beq_eq_false_iff_ne.2 (by omega)
    have key : ∀ n, To w S L u P M ((w.drewN n).setCell ⟨fB, k * 6 + 5, none⟩ (.slice A j c)) { s with c := setTop s.c { f with lab := f.lab.take j } } := by
      intro n
      exact labs_cut (h.still (SD n)) (hf.still (SD n)) hk j (by omega) rfl
    have KEY := Lib.hid key
    clear h hf hk hk2 ok hb hm SD hmc hll h0 hi hz1 key h1
    generalize hN : (j + 1 : Nat) = N at f5 hi1 hi2 hcut
    clear hN hi2
    go_enter Tryz.func97, Tryz.ntmps97
    go_wp2_with fail
    refine HF.out.mono ?_
    rintro e w1 ⟨rfl, n1, rfl⟩
    go_wp2_with (go_at_call 52; (with_reducible refine (stuck_no _ _).mono ?_); rintro e w2 ⟨rfl, rfl⟩)
    go_end0
    exact ⟨rfl, KEY.out _⟩
end Go.Proofs.YtjbdldekllffkaaGreatDoor
/- step's machine: skips. -/
set_option linter.unusedVariables false
namespace Go.Proofs.YtjbdldekllffkaaGreatDoor
open Go.RowKit Go.Sep Go.St
variable {w : World} {S : Nat → Prop} {L : Key → Option Ck} {u : Nat} {P : Ptrs} {M : Mo} {s : Ms}
/-- A label as it lies. -/
theorem lab_at {e n c : Nat} {A : Option Addr} {l : List Lb} (hr : Row w e 3 (.slice A n c) (labC l)) (j : Nat) (x : Lb) (hx : l[j]? = some x) : ∃ lb, A = some ⟨lb, 0, none⟩ ∧ w.cell? ⟨lb, j * 3, none⟩ = some (.int .i64 x.to) ∧ w.cell? ⟨lb, j * 3 + 1, none⟩ = some (.int .i64 x.ar) ∧ w.cell? ⟨lb, j * 3 + 2, none⟩ = some (.int .i64 x.ht) := by
  obtain ⟨A', n', c', e1, h1, hA, h2, h3, h4⟩ := id hr
  cases e1
  have hj := (List.getElem?_eq_some_iff.1 hx).1
  rw [labC_len] at h1
  have hc : 0 < c := by omega
  obtain ⟨g, cur, rfl, hg, hcs, ht⟩ := h4 hc
  have get : ∀ i v, i < 3 → ([Value.int .i64 x.to, .int .i64 x.ar, .int .i64 x.ht] : List Value)[i]? = some v → w.cell? ⟨g, j * 3 + i, none⟩ = some v := by
    intro i v hi hv
    refine (Row.cell hr hc (j * 3 + i) v ?_).1
    unfold labC
    rw [flat_get _ 3 (fun _ => rfl) l j i hi, hx]
    exact hv
  exact ⟨g, rfl, get 0 _ (by omega) rfl, get 1 _ (by omega) rfl, get 2 _ (by omega) rfl⟩
set_option maxRecDepth 100000 in
set_option maxHeartbeats 1000000 in
theorem skips_c (h : Md w S L u P M s) {k fB fc : Nat} {f : Fr} {sv vv lv bv : Value} {raws : List (Value × Value)} (hf : Frm w L u P s k f fB fc sv vv raws lv bv) (hk : s.c.frs.length = k + 1) (hk2 : k ≤ 1000000)
    (ok : FrOk f) (hb : s.c.st.length ≤ 1000000000) :
    Calls Tryz.prog 96 #[.pointer (some ⟨P.mB, 0, none⟩)] w fun e w' => e = .returned (.tuple #[]) ∧ To w S L u P M w' { s with c := skipC s.c f } := by
  obtain ⟨A, c, rfl, hmc, hlr⟩ := hf.lab_form h
  have HF := Lib.hid (frame_c h hf hk2)
  have SD : ∀ m, Still w (w.drewN m) := fun m => (Still.refl w).drewN m
  have f5 := hf.cell 5 _ rfl
  have z1 := hf.frozen (k * 6 + 1)
  have z5 := hf.frozen (k * 6 + 5)
  have f1 := hf.cell 1 _ rfl
  have hll := ok.ll
  by_cases h0 : f.lab.length < 2
  · have hs : skipC s.c f = endsC 17 := by
      unfold skipC
      split
      · rfl
      · rw [if_pos h0]
    rw [hs]
    generalize f.lab.length = m at f5 hmc hll h0
    have hi1 : IntKind.i64.wrap ((m : Int) - 1) = (m : Int) - 1 := IntWalk.i64_in _ (by omega)
    have d0 : decide ((m : Int) - 1 < 1) = true := decide_eq_true (by omega)
    have HE := Lib.hid (fun n => stuck_yes (h.still (SD n)))
    clear h hf hk hk2 ok hb hlr SD hmc hll hs h0
    go_enter Tryz.func96, Tryz.ntmps96
    go_wp2_with fail
    refine HF.out.mono ?_
    rintro e w1 ⟨rfl, n1, rfl⟩
    go_wp2_with fail
    refine (HE.out _).mono ?_
    rintro e w2 ⟨rfl, ht⟩
    have HT := Lib.hid ht
    clear ht
    go_wp2
    exact bodyPost_ret (v := .tuple #[]) (by simp [results, Tryz.results96, go_sem]) rfl ⟨rfl, HT.out⟩
  · obtain ⟨j, hj⟩ : ∃ j, f.lab.length = j + 1 := ⟨f.lab.length - 1, by omega⟩
    obtain ⟨x, hx⟩ : ∃ x, f.lab[j]? = some x := ⟨_, List.getElem?_eq_getElem (by omega)⟩
    have hs : skipC s.c f = setTop s.c { f with at_ := x.to + 1, lab := f.lab.take j } := by
      unfold skipC
      rw [hj, Nat.add_sub_cancel, hx]
      simp only
      rw [if_neg (by omega)]
    rw [hs]
    obtain ⟨lb, rfl, l0, _, _⟩ := lab_at hlr j x hx
    have hto := (ok.lab x (List.mem_of_getElem? hx)).1
    have hi1 : IntKind.i64.wrap (((j + 1 : Nat) : Int) - 1) = (j : Int) := by rw [IntWalk.i64_in _ (by omega)]; omega
    have hi2 : IntKind.i64.wrap (x.to + 1) = x.to + 1 := IntWalk.i64_in _ (by omega)
    have d0 : decide ((j : Int) < 1) = false := decide_eq_false (by omega)
    have e0 : (0 : Int) ≤ (j : Int) := by omega
    have e1 : (j : Int) < ((j + 1 : Nat) : Int) := by omega
    obtain ⟨i0, hi, _, hz1, _⟩ := info_parts infoLb
    have hcut := slice_to (P := Tryz.prog) (t := 116) Tryz.underlying116 hi (some ⟨lb, 0, none⟩) (j + 1) c j (by omega) (by omega)
    have key : ∀ n, To w S L u P M (((w.drewN n).setCell ⟨fB, k * 6 + 1, none⟩ (.int .i64 (x.to + 1))).setCell ⟨fB, k * 6 + 5, none⟩ (.slice (some ⟨lb, 0, none⟩) j c)) { s with c := setTop s.c { f with at_ := x.to + 1, lab := f.lab.take j } } := by
      intro n
      obtain ⟨S1, L1, raws1, h1, k1, ro1, hS1, hf1⟩ := frame_numF (h.still (SD n)) (hf.still (SD n)) hk (x.to + 1)
      have h2 := labs_cut h1 hf1 (by simp [setTop, hk]) j (by show j ≤ f.lab.length; omega) rfl
      have e : setTop (setTop s.c { f with at_ := x.to + 1 }) { f with at_ := x.to + 1, lab := f.lab.take j } = setTop s.c { f with at_ := x.to + 1, lab := f.lab.take j } := by simp [setTop]
      exact To.trans k1 (ro1.trans' (Ro.refl _ _)) hS1 (by rw [← e]; exact h2)
    have KEY := Lib.hid key
    rw [hj] at f5
    clear h hf hk hk2 ok hb hlr SD hmc hll hs h0 hx hto hi hz1 key hj
    generalize hN : (j + 1 : Nat) = N at f5 hi1 e1 hcut
    clear hN
    go_enter Tryz.func96, Tryz.ntmps96
    go_wp2_with fail
    refine HF.out.mono ?_
    rintro e w1 ⟨rfl, n1, rfl⟩
    go_wp2_with (go_at_call 52; (with_reducible refine (stuck_no _ _).mono ?_); rintro e w2 ⟨rfl, rfl⟩)

    go_end0
    exact ⟨rfl, KEY.out _⟩
end Go.Proofs.YtjbdldekllffkaaGreatDoor
/- append of noughts onto a row that is held. -/
set_option linter.unusedVariables false
namespace Go.Sep
open Go.RowKit
variable {P : Program}
theorem zeroCells_one (z : Value) (n : Nat) : Builtin.zeroCells #[z] n = Array.replicate n z := by
  apply Array.ext
  · simp [Builtin.zeroCells]
  · intro i h1 h2
    simp [Builtin.zeroCells, Nat.mod_one]
theorem Row.appendZ {w : World} {e : Nat} {v : Value} {xs : List Value} (h : Row w e 1 v xs) (t ti ty : TypeId) (ki : IntKind) (z : Value) (bytes : Nat) (ht : P.underlying t = some (.slice e)) (hti : P.underlying ti = some (.int ki))
    (hinfo : (P.info? e).map (fun i => (i.zero, i.size, i.bytes)) = some (some z, 1, bytes)) (hz1 : z.cells = #[z]) (ho : z.oneCell' = true) (hb : 0 < bytes)
    (n : Nat) (hbytes : (xs.length + n) * bytes ≤ 140737488355328) :
    ∃ v' w', (Builtin.append_ #[t, ti] ty #[v, .int .i64 (n : Int)]).run P w = .ok v' w' ∧ Row w' e 1 v' (xs ++ List.replicate n z) ∧ w.grownBy w' (rowBlock v) ∧
      (rowBlock v' = rowBlock v ∨ ∃ b, rowBlock v' = some b ∧ w.heap.size ≤ b) := by
  obtain ⟨i, hi, hz, hsize, hby⟩ : ∃ i, P.info? e = some i ∧ i.zero = some z ∧ i.size = 1 ∧ i.bytes = bytes := by
    cases hi : P.info? e with
    | none => rw [hi] at hinfo; cases hinfo
    | some i =>
      rw [hi] at hinfo
      injection hinfo with hinfo
      injection hinfo with e1 e2
      injection e2 with e2 e3
      exact ⟨i, rfl, e1, e2, e3⟩
  subst hby
  have hnn : xs.length + n ≤ 140737488355328 := Nat.le_trans (Nat.le_mul_of_pos_right _ hb) hbytes
  have hw : IntKind.i64.wrap (n : Int) = (n : Int) := IntWalk.i64_in _ (by omega)
  have hl0 : ¬ ((n : Int) < 0) := by omega
  have hby1 : n * i.bytes ≤ 140737488355328 := Nat.le_trans (Nat.mul_le_mul_right _ (Nat.le_add_left _ _)) hbytes
  have hl1 : ¬ (281474976710656 < (n : Int) * (i.bytes : Int)) := by
    have : ((n * i.bytes : Nat) : Int) = (n : Int) * (i.bytes : Int) := by simp
    omega
  obtain ⟨B, m, c, rfl, g1, hA, g2, g3, hr⟩ := h
  rw [Nat.mul_one] at g1
  have same : ∀ row, w.grownBy w row := fun row => ⟨rfl, rfl, rfl, Nat.le_refl _, fun _ _ _ => rfl⟩
  by_cases hn : n = 0
  · subst hn
    refine ⟨.slice B m c, w, ?_, by simp only [List.replicate_zero, List.append_nil]; exact ⟨B, m, c, rfl, by omega, hA, g2, g3, hr⟩, same _, .inl rfl⟩
    have hw0 : IntKind.i64.wrap 0 = 0 := by simpa using hw
    cases B <;> simp [Builtin.append_, run_underlying ht, run_underlying hti, sizeOf, typeInfo, hi, asInt, asIntOf, hw0, g2, storeCells]
  · by_cases hroom : m + n ≤ c
    · obtain ⟨g, cur, rfl, hg, hcs, htk⟩ := hr (by omega)
      rw [Nat.mul_one] at hcs htk
      have hst := run_storeCells_at P g m e (List.replicate n z) 0 cur w hg (by simp; omega) (by intro u hu; rw [List.eq_of_mem_replicate hu]; exact ho)
      simp only [Nat.add_zero] at hst
      refine ⟨.slice (some ⟨g, 0, none⟩) (m + n) c, w.setRow g (cur.toList.take m ++ List.replicate n z ++ cur.toList.drop (m + n)).toArray, ?_, ?_, ?_, .inl rfl⟩
      · simp [Builtin.append_, run_underlying ht, run_underlying hti, sizeOf, typeInfo, hi, asInt, asIntOf, hw, hl0, hl1, hroom, hn, zeroValue, hz, hz1, hsize, zeroCells_one, Addr.add_lit]
        rw [List.append_assoc] at hst
        simp only [List.length_replicate] at hst
        rw [hst]
        rfl
      · refine ⟨_, m + n, c, rfl, by simp [g1], (fun h => nomatch h), hroom, g3, fun _ => ⟨g, _, rfl, setRow_heap w g cur _ e _ hg, ?_, ?_⟩⟩
        · simp; omega
        · rw [Nat.mul_one]
          show List.take (m + n) (List.take m cur.toList ++ List.replicate n z ++ List.drop (m + n) cur.toList) = xs ++ List.replicate n z
          rw [htk, ← g1]
          have : (xs ++ List.replicate n z).length = xs.length + n := by simp
          rw [← this]
          exact List.take_left
      · refine ⟨rfl, rfl, rfl, by simp [World.setRow], fun k _ hk => setRow_other w g k _ (fun he => hk (by simp [rowBlock, he]; omega))⟩
    · have h63 : ¬ (9223372036854775807 < ((m : Int) + (n : Int))) := by omega
      have hfit := growslice_fits (need := m + n) (old := c) (bytes := i.bytes) (by omega) (by rw [← g1]; exact hbytes)
      have h48 : ¬ (281474976710656 < Builtin.nextslicecap (m + n) c * i.bytes) := by omega
      have hge := grownCap_ge w (m + n) c e
      have hcm := grownCap_le_maxLen w (m + n) c e (by simp only [maxLen]; omega)
      have hrun : (Builtin.append_ #[t, ti] ty #[.slice B m c, .int .i64 (n : Int)]).run P w = .ok (.slice (some ⟨w.heap.size, 0, none⟩) (m + n) (grownCap w (m + n) c e)) (w.drew.alloc (.cells (xs.toArray ++ Array.replicate n z ++ Array.replicate (grownCap w (m + n) c e - (m + n)) z) e)) := by
        have hf : (Builtin.firstCells i.size m (.slice B m c)).run P w.drew = .ok xs.toArray w.drew := by
          cases B with
          | none =>
            have : c = 0 := hA rfl
            obtain rfl : m = 0 := by omega
            obtain rfl : xs = [] := List.eq_nil_of_length_eq_zero g1
            exact run_firstCells_none (P := P) w.drew _ _ _ _
          | some b =>
            refine run_firstCells_some (P := P) w.drew i.size m b m c xs (by rw [hsize, Nat.mul_one]; exact g1) (fun j u hu => ?_)
            have hj := (List.getElem?_eq_some_iff.1 hu).1
            obtain ⟨g, cur, e1, hg, hcs, htk⟩ := hr (by omega)
            cases e1
            rw [Nat.mul_one] at htk
            rw [show (Addr.mk g 0 none).add j = ⟨g, j, none⟩ by unfold Addr.add; split <;> simp_all]
            rw [← htk, List.getElem?_take] at hu
            split at hu
            · rw [World.cell?_of_block (w := w) (w' := w.drew) (a := ⟨g, j, none⟩) rfl]; simp [World.cell?, hg]; simpa using hu
            · cases hu
        simp [Builtin.append_, run_underlying ht, run_underlying hti, sizeOf, typeInfo, hi, asInt, asIntOf, hw, hl0, hl1, hroom, hn, zeroValue, hz, hz1, hsize, h63, h48, Question.forced, newRow, grownCap, zeroCells_one]
        rw [hsize] at hf
        simp [hf]
      refine ⟨_, _, hrun, ⟨_, m + n, _, rfl, by simp [g1], (fun h => nomatch h), hge, hcm, fun _ => ⟨w.heap.size, _, rfl, heap_alloc_new w.drew _, ?_, ?_⟩⟩, ⟨rfl, rfl, rfl, by simp, fun k hk _ => heap_alloc_old w.drew _ hk⟩, ?_⟩
      · simp [g1]; omega
      · rw [Nat.mul_one]
        simp only [Array.toList_append, Array.toList_replicate]
        have : (xs ++ List.replicate n z).length = m + n := by simp [g1]
        rw [← this]
        exact List.take_left
      · right
        refine ⟨w.heap.size, ?_, Nat.le_refl _⟩
        simp [rowBlock]
        omega
end Go.Sep
/- step's machine: zeroes; opens, where it does not. -/
set_option linter.unusedVariables false
namespace Go.Proofs.YtjbdldekllffkaaGreatDoor
open Go.RowKit Go.Sep Go.St
variable {w : World} {S : Nat → Prop} {L : Key → Option Ck} {u : Nat} {P : Ptrs} {M : Mo} {s : Ms}
def Zeroed (w : World) (v : Value) (xs : List Value) (r : Ending) (w' : World) : Prop := ∃ B n c, r = .returned (.slice B n c) ∧ Row w' 58 1 (.slice B n c) xs ∧ w.grownBy w' (rowBlock v) ∧ (rowBlock (.slice B n c) = rowBlock v ∨ ∃ b, rowBlock (.slice B n c) = some b ∧ w.heap.size ≤ b)
theorem wpList_appendZ {P : Program} {w : World} {ops : Array Oper} {rest : List Oper} {o : Oper} {a : Act} {Q : Exit → Act → World → Prop} (hgd : o.guard = none) (s x : Operand) (t ti : TypeId)
    (ho : o.op = .call { callee := .builtin .append, args := #[s, x], argTypes := #[t, ti] }) (e : Nat) (ki : IntKind) (z : Value) (bytes : Nat) (ht : P.underlying t = some (.slice e)) (hti : P.underlying ti = some (.int ki))
    (hinfo : (P.info? e).map (fun i => (i.zero, i.size, i.bytes)) = some (some z, 1, bytes)) (hz1 : z.cells = #[z]) (hzo : z.oneCell' = true) (hb : 0 < bytes)
    (v : Value) (xs : List Value) (hs : a.eval s = v) (n : Nat) (hx : a.eval x = .int .i64 (n : Int)) (h : Row w e 1 v xs) (hbytes : (xs.length + n) * bytes ≤ 140737488355328)
    (hK : ∀ B m c w', Hid (Row w' e 1 (.slice B m c) (xs ++ List.replicate n z)) → Hid (w.grownBy w' (rowBlock v)) → Hid (rowBlock (.slice B m c) = rowBlock v ∨ ∃ b, rowBlock (.slice B m c) = some b ∧ w.heap.size ≤ b) → wpList P ops Q rest (a.put o.dst (.slice B m c)) w') :
    wpList P ops Q (o :: rest) a w := by
  refine wpList_plain hgd fun K hK' => ?_
  obtain ⟨v', w', hr, h2, h3, h4⟩ := h.appendZ (P := P) t ti o.type ki z bytes ht hti hinfo hz1 hzo hb n hbytes
  unfold Oper.wp execOp
  simp only [ho, resolve, invoke, builtin, Sem.run_bind, Sem.run_pure, Result.andThen_ok, List.map_toArray, List.map_cons, List.map_nil, hs, hx, hr]
  obtain ⟨B, m, cc, rfl, _⟩ := id h2
  exact hK' _ _ (hK B m cc w' (Lib.hid h2) (Lib.hid h3) (Lib.hid h4))
theorem zeroes_c (w : World) (A : Option Addr) (m c n : Nat) (l : List Int) (hr : Row w 58 1 (.slice A m c) (ints .u64 l)) (hb : l.length + n ≤ 1000000000) :
    Calls Tryz.prog 160 #[.slice A m c, .int .i64 (n : Int)] w (Zeroed w (.slice A m c) (ints .u64 (l ++ List.replicate n 0))) := by
  have e : ints .u64 (l ++ List.replicate n 0) = ints .u64 l ++ List.replicate n (.int .u64 0) := by simp [ints]
  rw [e]
  have hbytes : ((ints .u64 l).length + n) * 8 ≤ 140737488355328 := by rw [ints_len]; omega
  have HR := Lib.hid hr
  clear hr e hb
  go_enter Tryz.func160, Tryz.ntmps160
  go_wp2_with (at_builtin; refine wpList_appendZ (by rfl) _ _ _ _ (by rfl) 58 .i64 (.int .u64 0) 8 Tryz.underlying23 Tryz.underlying3 infoU64 rfl rfl (by omega) (.slice A m c) _ (by rfl) n (by rfl) HR.out hbytes ?_; intro B1 n1 c2 w1 hr1 hg1 ha1)
  go_ret
  exact ⟨B1, n1, c2, rfl, hr1.out, hg1.out, ha1.out⟩
theorem Md.c0 (h : Md w S L u P M s) : ∃ fA fc, w.cell? ⟨P.cB, P.co, none⟩ = some (.slice fA s.c.frs.length fc) := by
  obtain ⟨fv, sv, vv, hC, ⟨raws, hl, hR, hA⟩, hS, hV⟩ := h.cfg
  obtain ⟨A, n, c, rfl, h1, _⟩ := h.sep.holds _ _ hR
  have hflat : ((s.c.frs.zip raws).flatMap fun p => frC p.1 p.2.1 p.2.2) = (s.c.frs.zip raws).flatMap frG := rfl
  rw [hflat, flat_len frG 6 frG_len, List.length_zip, hl, Nat.min_self] at h1
  obtain rfl : n = s.c.frs.length := by omega
  exact ⟨A, c, h.sep.cellA hC⟩
theorem opens_lim (h : Md w S L u P M s) (f : Nat) (args : Value) (hn : 32 ≤ s.c.frs.length) :
    Calls Tryz.prog 93 #[.pointer (some ⟨P.mB, 0, none⟩), .int .u32 (f : Int), args] w fun e w' => e = .returned (.tuple #[]) ∧ To w S L u P M w' { s with c := endsC 8 } := by
  obtain ⟨fA, fc, c0⟩ := h.c0
  have m0 := h.sep.cell0 h.mach 0 _ rfl
  have HE := Lib.hid (ends_c h 8)
  have d0 : decide (32 ≤ s.c.frs.length) = true := decide_eq_true hn
  have d1 : decide ((32 : Int) ≤ (s.c.frs.length : Int)) = true := decide_eq_true (by omega)
  clear h hn
  go_enter Tryz.func93, Tryz.ntmps93
  go_wp2_with fail
  refine HE.out.mono ?_
  rintro e w1 ⟨rfl, ht⟩
  have HT := Lib.hid ht
  clear ht
  go_wp2
  exact bodyPost_ret (v := .tuple #[]) (by simp [results, Tryz.results93, go_sem]) rfl ⟨rfl, HT.out⟩
set_option maxRecDepth 100000 in
set_option maxHeartbeats 1000000 in
theorem opens_no (h : Md w S L u P M s) (f : Nat) (hf : f < 4294967296) (args : Value) (hn : s.c.frs.length < 32) (ht : functionM M s.i.blocks.length f = none) :
    Calls Tryz.prog 93 #[.pointer (some ⟨P.mB, 0, none⟩), .int .u32 (f : Int), args] w fun e w' => e = .returned (.tuple #[]) ∧ To w S L u P M w' { s with c := endsC 17 } := by
  obtain ⟨fA, fc, c0⟩ := h.c0
  have m0 := h.sep.cell0 h.mach 0 _ rfl
  have HF := Lib.hid (function_no h f hf ht)
  have HE := Lib.hid (fun (w' : World) (q : Still w w') => (stuck_yes (h.still q)))
  have HR := Lib.hid (fun (w' : World) (q : Still w w') => (q.ro h.sep.lt))
  have d0 : decide (32 ≤ s.c.frs.length) = false := decide_eq_false (by omega)
  have d1 : decide ((32 : Int) ≤ (s.c.frs.length : Int)) = false := decide_eq_false (by omega)
  clear h hn hf ht
  go_enter Tryz.func93, Tryz.ntmps93
  go_wp2_with fail
  refine HF.out.mono ?_
  rintro e w1 ⟨rfl, hst⟩
  have ST := Lib.hid hst
  clear hst
  go_wp2_with fail
  refine (HE.out _ (ST.out.alloc _)).mono ?_
  rintro e w2 ⟨rfl, ht⟩
  have HT := Lib.hid (To.trans (Keep.refl _ _) (HR.out _ (ST.out.alloc _)) (fun _ h => h) ht)
  clear ht
  go_wp2
  exact bodyPost_ret (v := .tuple #[]) (by simp [results, Tryz.results93, go_sem]) rfl ⟨rfl, HT.out⟩
set_option maxRecDepth 100000 in
set_option maxHeartbeats 1000000 in
theorem opens_arg (h : Md w S L u P M s) (f : Nat) (hf : f < 4294967296) (A : Option Addr) (m c : Nat) (hn : s.c.frs.length < 32) (t : Ft) (ht : functionM M s.i.blocks.length f = some t) (hm : m ≠ t.ps.length) :
    Calls Tryz.prog 93 #[.pointer (some ⟨P.mB, 0, none⟩), .int .u32 (f : Int), .slice A m c] w fun e w' => e = .returned (.tuple #[]) ∧ To w S L u P M w' { s with c := endsC 17 } := by
  obtain ⟨fA, fc, c0⟩ := h.c0
  have m0 := h.sep.cell0 h.mach 0 _ rfl
  have HF := Lib.hid (function_yes h f hf t ht)
  have HE := Lib.hid (fun (w' : World) (q : Still w w') => (stuck_yes (h.still q)))
  have HR := Lib.hid (fun (w' : World) (q : Still w w') => (q.ro h.sep.lt))
  have d0 : decide (32 ≤ s.c.frs.length) = false := decide_eq_false (by omega)
  have d1 : decide ((32 : Int) ≤ (s.c.frs.length : Int)) = false := decide_eq_false (by omega)
  have d2 : ((m : Int) != (t.ps.length : Int)) = true := by rw [bne_iff_ne]; omega
  have d3 : ((m : Int) == (t.ps.length : Int)) = false := beq_eq_false_iff_ne.2 (by omega)
  clear h hn hf ht hm
  go_enter Tryz.func93, Tryz.ntmps93
  go_wp2_with fail
  refine HF.out.mono ?_
  rintro e w1 ⟨pA, pc, rA, rc, rfl, hft, hst⟩
  have ST := Lib.hid hst
  have FT := Lib.hid hft
  clear hst hft
  go_wp2_with fail
  refine (HE.out _ (ST.out.alloc _)).mono ?_
  rintro e w2 ⟨rfl, ht⟩
  have HT := Lib.hid (To.trans (Keep.refl _ _) (HR.out _ (ST.out.alloc _)) (fun _ h => h) ht)
  clear ht
  go_wp2
  exact bodyPost_ret (v := .tuple #[]) (by simp [results, Tryz.results93, go_sem]) rfl ⟨rfl, HT.out⟩
end Go.Proofs.YtjbdldekllffkaaGreatDoor
/- step's machine: opens, where it does. -/
set_option linter.unusedVariables false
namespace Go.Proofs.YtjbdldekllffkaaGreatDoor
open Go.RowKit Go.Sep Go.St
variable {w : World} {S : Nat → Prop} {L : Key → Option Ck} {u : Nat} {P : Ptrs} {M : Mo} {s : Ms}
theorem and_low (x : Int) (h0 : 0 ≤ x) (h1 : x < 18446744073709551616) : Go.bits .and .u64 x 4294967295 = lowI x := by
  obtain ⟨n, rfl⟩ := Int.eq_ofNat_of_zero_le h0
  unfold lowI
  have e : (n &&& 4294967295) = n % 2 ^ 32 := Nat.and_two_pow_sub_one_eq_mod n 32
  rw [show (4294967295 : Int) = ((4294967295 : Nat) : Int) from rfl, u64_and_nat _ _ (by omega) (by omega), e]
  rfl
/-- A new row, whole. -/
theorem _root_.Go.Sep.Sep.newRow {κ : Type} {w : World} {S : Nat → Prop} {L : κ → Option Ck} (h : Sep w S L) (k : κ) (arr : Array Value) (e sz n : Nat) (hn : arr.size = n * sz) (hm : n ≤ maxLen) :
    Sep (w.alloc (.cells arr e)) S (upd L k (.rw e sz (.slice (some ⟨w.heap.size, 0, none⟩) n n) arr.toList)) := by
  refine h.put k _ ⟨_, n, n, rfl, by simpa using hn, (fun h => nomatch h), Nat.le_refl _, hm, fun _ => ⟨w.heap.size, arr, rfl, heap_alloc_new w _, hn, by rw [List.take_of_length_le (by simp; omega)]⟩⟩ (by simp) (fun k' c' hne e' => ?_) (fun b hb hS => ?_)
  · refine ⟨Ck.move (h.holds k' c' e') fun b hb => heap_alloc_old w _ (Ck.lt (h.holds k' c' e') hb), ?_⟩
    refine Ck.apart_of fun b hb hb' => ?_
    have hb : rowBlock (.slice (some ⟨w.heap.size, 0, none⟩) n n) = some b := hb
    simp only [rowBlock] at hb
    split at hb
    · cases hb
    · cases hb
      have := Ck.lt (h.holds k' c' e') hb'
      simp at this
  · have hb : rowBlock (.slice (some ⟨w.heap.size, 0, none⟩) n n) = some b := hb
    simp only [rowBlock] at hb
    split at hb
    · cases hb
    · cases hb
      have := h.lt _ hS
      simp at this
/-- A fresh row is held. -/
theorem _root_.Go.Sep.Sep.addRow {κ : Type} {w w1 : World} {S : Nat → Prop} {L : κ → Option Ck} (h : Sep w S L) (k : κ) {e sz : Nat} {v : Value} {xs : List Value} (hr : Row w1 e sz v xs) (hg : w.grownBy w1 none) (hf : ∀ b, rowBlock v = some b → w.heap.size ≤ b) :
    Sep w1 S (upd L k (.rw e sz v xs)) ∧ Ro S w w1 := by
  have hlt : ∀ b, b < w.heap.size → w1.heap[b]? = w.heap[b]? := fun b hb => hg.block b hb (by simp)
  refine ⟨h.put k _ hr hg.size (fun k' c' hne e' => ⟨Ck.move (h.holds k' c' e') fun b hb => hlt b (Ck.lt (h.holds k' c' e') hb), Ck.apart_of fun b hb hb' => ?_⟩) (fun b hb hS => ?_), ⟨hg.size, hg.os, hg.output⟩, fun b hb => hlt b (h.lt b hb)⟩
  · have h1 := hf b hb
    have h2 := Ck.lt (h.holds k' c' e') hb'
    omega
  · have h1 := hf b hb
    have h2 := h.lt b hS
    omega
theorem upd_comm {κ : Type} (L : κ → Option Ck) (k k' : κ) (c c' : Ck) (h : k ≠ k') : upd (upd L k c) k' c' = upd (upd L k' c') k c := by
  funext q
  by_cases e : q = k'
  · subst e; rw [upd_same, upd_other _ _ (Ne.symm h), upd_same]
  · rw [upd_other _ _ e]
    by_cases e2 : q = k
    · subst e2; rw [upd_same, upd_same]
    · rw [upd_other _ _ e2, upd_other _ _ e2, upd_other _ _ e]
/-- One more frame. -/
theorem frames_push {w5 w6 : World} {L5 : Key → Option Ck} {lv bv : Value} {B : Option Addr} {n6 c6 : Nat} (h : Md w S L u P M s) (fr : Fr) (hs : Sep w5 S L5) (ro : Ro S w w5)
    (hL : L5 = upd (upd L (.loc u s.c.frs.length) (.rw 58 1 lv (ints .u64 fr.loc))) (.lab u s.c.frs.length) (.rw 120 3 bv (labC fr.lab))) (fv sv vv : Value) (raws : List (Value × Value))
    (hC : L (.cfg u) = some (.cl P.cB P.co [fv, sv, .bool s.c.ov, .int .i64 s.c.er, vv])) (hlen : raws.length = s.c.frs.length) (hR : L (.fr u) = some (.rw 118 6 fv ((s.c.frs.zip raws).flatMap frG)))
    (hA : ∀ (k : Nat) f r, s.c.frs[k]? = some f → raws[k]? = some r → L (.loc u k) = some (.rw 58 1 r.1 (ints .u64 f.loc)) ∧ L (.lab u k) = some (.rw 120 3 r.2 (labC f.lab)))
    (hSt : L (.st u) = some (.rw 58 1 sv (ints .u64 s.c.st))) (hV : L (.va u) = some (.rw 58 1 vv (ints .u64 s.c.va)))
    (hr : Row w6 118 6 (.slice B n6 c6) (((s.c.frs.zip raws).flatMap frG) ++ frC fr lv bv)) (hg : w5.grownBy w6 (rowBlock fv)) (ha : rowBlock (.slice B n6 c6) = rowBlock fv ∨ ∃ b, rowBlock (.slice B n6 c6) = some b ∧ w5.heap.size ≤ b) :
    To w S L u P M (w6.setCell ⟨P.cB, P.co, none⟩ (.slice B n6 c6)) { s with c := { s.c with frs := s.c.frs ++ [fr] } } := by
  subst hL
  have e1 : ((s.c.frs.zip raws).flatMap frG) ++ frC fr lv bv = ((s.c.frs ++ [fr]).zip (raws ++ [(lv, bv)])).flatMap frG := by
    rw [List.zip_append hlen.symm]
    simp [frG]
  rw [e1] at hr
  have hfr5 : ∀ q : Key, q ≠ .loc u s.c.frs.length → q ≠ .lab u s.c.frs.length → (upd (upd L (.loc u s.c.frs.length) (.rw 58 1 lv (ints .u64 fr.loc))) (.lab u s.c.frs.length) (.rw 120 3 bv (labC fr.lab))) q = L q := fun q h1 h2 => by rw [upd_other _ _ h2, upd_other _ _ h1]
  obtain ⟨s6, r6⟩ := hs.grow ((hfr5 _ (by simp) (by simp)).trans hR) hr hg ha
  have hC6 : ∀ (X : Ck), upd (upd (upd L (.loc u s.c.frs.length) (.rw 58 1 lv (ints .u64 fr.loc))) (.lab u s.c.frs.length) (.rw 120 3 bv (labC fr.lab))) (.fr u) X (.cfg u) = some (.cl P.cB P.co [fv, sv, .bool s.c.ov, .int .i64 s.c.er, vv]) := fun X => by
    rw [upd_other _ _ (by simp), hfr5 _ (by simp) (by simp)]; exact hC
  have s7 := s6.set (hC6 _) 0 (by simp) (.slice B n6 c6)
  have r7 := (ro.trans' r6).trans' (s6.ro_setCell (hC6 _) (P.co + 0) (.slice B n6 c6))
  rw [Nat.add_zero] at s7 r7
  refine ⟨S, _, h.recfg s7 r7 (fun _ h => h) ⟨.slice B n6 c6, sv, vv, ?_, ⟨raws ++ [(lv, bv)], by simp [hlen], ?_, fun k f r x y => ?_⟩, ?_, ?_⟩ (cf_upd (cf_upd (cf_upd (cf_upd (fun _ _ => rfl) rfl) rfl) rfl) rfl), ((((Keep.refl u L).upd rfl).upd rfl).upd rfl).upd rfl, r7, fun _ h => h⟩
  · rw [upd_same]; rfl
  · rw [upd_other _ _ (by simp), upd_same]; rfl
  · have x : (s.c.frs ++ [fr])[k]? = some f := x
    rcases Nat.lt_trichotomy k s.c.frs.length with hk | hk | hk
    · rw [List.getElem?_append_left hk] at x
      rw [List.getElem?_append_left (by omega)] at y
      obtain ⟨a1, a2⟩ := hA k f r x y
      refine ⟨?_, ?_⟩
      · rw [upd_other _ _ (by simp), upd_other _ _ (by simp), hfr5 _ (by simp; omega) (by simp)]; exact a1
      · rw [upd_other _ _ (by simp), upd_other _ _ (by simp), hfr5 _ (by simp) (by simp; omega)]; exact a2
    · subst hk
      rw [List.getElem?_append_right (by omega)] at x
      rw [List.getElem?_append_right (by omega), hlen] at y
      simp at x y
      subst x y
      refine ⟨?_, ?_⟩
      · rw [upd_other _ _ (by simp), upd_other _ _ (by simp), upd_other _ _ (by simp), upd_same]
      · rw [upd_other _ _ (by simp), upd_other _ _ (by simp), upd_same]
    · rw [List.getElem?_eq_none (by simp; omega)] at x
      cases x
  · rw [upd_other _ _ (by simp), upd_other _ _ (by simp), hfr5 _ (by simp) (by simp)]; exact hSt
  · rw [upd_other _ _ (by simp), upd_other _ _ (by simp), hfr5 _ (by simp) (by simp)]; exact hV
end Go.Proofs.YtjbdldekllffkaaGreatDoor
