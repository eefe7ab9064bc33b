/- Lemmas of the walk, part 3. -/
import Derived.Test.YtjbdldekllffkaaGreatDoorJ2
import Derived.Test.YtjbdldekllffkaaGreatDoorJ1
/- step's machine: opens, where it does: the walk. -/
set_option linter.unusedVariables false
namespace Go.Proofs.YtjbdldekllffkaaGreatDoor
open Go.RowKit Go.Sep Go.St
variable {w : World} {S : Nat → Prop} {L : Key → Option Ck} {u : Nat} {P : Ptrs} {M : Mo} {s : Ms}
/-- The first j arguments are as their types want them. -/
def mixA (ps args : List Int) (j : Nat) : List Int := (argsOf ps args).take j ++ args.drop j
theorem argsOf_len {ps args : List Int} (h : args.length = ps.length) : (argsOf ps args).length = args.length := by simp [argsOf, h]
theorem mixA_len {ps args : List Int} (h : args.length = ps.length) (j : Nat) : (mixA ps args j).length = args.length := by
  simp only [mixA, List.length_append, List.length_take, List.length_drop, argsOf_len h]; omega
theorem mixA_0 (ps args : List Int) : mixA ps args 0 = args := by simp [mixA]
theorem mixA_all {ps args : List Int} (h : args.length = ps.length) : mixA ps args ps.length = argsOf ps args := by
  simp only [mixA]
  rw [List.take_of_length_le (by rw [argsOf_len h]; omega), List.drop_eq_nil_of_le (by omega), List.append_nil]
theorem mixA_get {ps args : List Int} (h : args.length = ps.length) (j : Nat) (x : Int) (hx : args[j]? = some x) : (mixA ps args j)[j]? = some x := by
  have hj := (List.getElem?_eq_some_iff.1 hx).1
  unfold mixA
  rw [List.getElem?_append_right (by rw [List.length_take, argsOf_len h]; omega), List.length_take, argsOf_len h, List.getElem?_drop, Nat.min_eq_left (by omega)]
  rw [show j + (j - j) = j by omega]
  exact hx
theorem mixA_succ {ps args : List Int} (h : args.length = ps.length) (j : Nat) (p x : Int) (hp : ps[j]? = some p) (hx : args[j]? = some x) : mixA ps args (j + 1) = (mixA ps args j).set j (if p = 127 then lowI x else x) := by
  have hj := (List.getElem?_eq_some_iff.1 hx).1
  have ha : (argsOf ps args)[j]? = some (if p = 127 then lowI x else x) := by
    simp only [argsOf, List.getElem?_zipWith, hp, hx]
  unfold mixA
  rw [List.take_add_one, ha, List.set_append_right _ _ (by rw [List.length_take, argsOf_len h]; omega), List.length_take, argsOf_len h, Nat.min_eq_left (by omega), show j - j = 0 by omega, List.append_assoc]
  congr 1
  have hd : args.drop j = x :: args.drop (j + 1) := by rw [List.drop_eq_getElem_cons hj]; congr 1; exact (List.getElem?_eq_some_iff.1 hx).2
  rw [hd, List.set_cons_zero]
  rfl
theorem _root_.List.set_getElem?_self' {α : Type} {l : List α} {i : Nat} {x : α} (h : l[i]? = some x) : l.set i x = l := by
  obtain ⟨h1, h2⟩ := List.getElem?_eq_some_iff.1 h
  rw [← h2]
  exact List.set_getElem_self h1
theorem upd_upd {κ : Type} (L : κ → Option Ck) (k : κ) (c c' : Ck) : upd (upd L k c) k c' = upd L k c' := by
  funext q
  by_cases e : q = k
  · subst e; rw [upd_same, upd_same]
  · rw [upd_other _ _ e, upd_other _ _ e, upd_other _ _ e]
/-- The locals, and the label, of a frame that is to be: the locals first. -/
theorem locs_A {W w4 : World} {v v2 : Value} {l l2 : List Int} {n : Nat} {lb : Lb} (hs : Sep W S (upd L (.loc u n) (.rw 58 1 v (ints .u64 l)))) (hr : Row w4 58 1 v2 (ints .u64 l2)) (hg : W.grownBy w4 (rowBlock v)) (ha : rowBlock v2 = rowBlock v ∨ ∃ b, rowBlock v2 = some b ∧ W.heap.size ≤ b) :
    Sep (w4.alloc (.cells #[.int .i64 lb.to, .int .i64 lb.ar, .int .i64 lb.ht] 120)) S (upd (upd L (.loc u n) (.rw 58 1 v2 (ints .u64 l2))) (.lab u n) (.rw 120 3 (.slice (some ⟨w4.heap.size, 0, none⟩) 1 1) (labC [lb]))) ∧
    Ro S W (w4.alloc (.cells #[.int .i64 lb.to, .int .i64 lb.ar, .int .i64 lb.ht] 120)) := by
  obtain ⟨s1, r1⟩ := hs.grow (upd_same _ _ _) hr hg ha
  rw [upd_upd] at s1
  exact ⟨s1.newRow (.lab u n) _ 120 3 1 rfl (by simp [maxLen]), r1.trans' ⟨⟨by simp, rfl, rfl⟩, fun b hb => heap_alloc_old w4 _ (s1.lt b hb)⟩⟩
/-- The label first. -/
theorem locs_B {W w4 : World} {v v2 : Value} {l l2 : List Int} {n : Nat} {lb : Lb} (hs : Sep W S (upd L (.loc u n) (.rw 58 1 v (ints .u64 l)))) (hr : Row w4 58 1 v2 (ints .u64 l2))
    (hg : (W.alloc (.cells #[.int .i64 lb.to, .int .i64 lb.ar, .int .i64 lb.ht] 120)).grownBy w4 (rowBlock v)) (ha : rowBlock v2 = rowBlock v ∨ ∃ b, rowBlock v2 = some b ∧ (W.alloc (.cells #[.int .i64 lb.to, .int .i64 lb.ar, .int .i64 lb.ht] 120)).heap.size ≤ b) :
    Sep w4 S (upd (upd L (.loc u n) (.rw 58 1 v2 (ints .u64 l2))) (.lab u n) (.rw 120 3 (.slice (some ⟨W.heap.size, 0, none⟩) 1 1) (labC [lb]))) ∧ Ro S W w4 := by
  have s1 := hs.newRow (.lab u n) #[.int .i64 lb.to, .int .i64 lb.ar, .int .i64 lb.ht] 120 3 1 rfl (by simp [maxLen])
  obtain ⟨s2, r2⟩ := s1.grow (k := .loc u n) (by rw [upd_other _ _ (by simp), upd_same]) hr hg ha
  rw [upd_comm _ _ _ _ _ (by simp), upd_upd, upd_comm _ _ _ _ _ (by simp)] at s2
  rw [upd_comm L (.loc u n) (.lab u n) _ _ (by simp)]
  exact ⟨s2, Ro.trans' (b := W.alloc (.cells #[.int .i64 lb.to, .int .i64 lb.ar, .int .i64 lb.ht] 120)) ⟨⟨by simp, rfl, rfl⟩, fun b hb => heap_alloc_old W _ (hs.lt b hb)⟩ r2⟩
set_option maxRecDepth 100000 in
set_option maxHeartbeats 4000000 in
theorem opens_yes (h : Md w S L u P M s) (f : Nat) (hf : f < 4294967296) (A : Option Addr) (m c : Nat) (args : List Int) (hargs : RdL w S 1 (num1 .u64) (.slice A m c) args) (hn : s.c.frs.length < 32) (t : Ft) (ht : functionM M s.i.blocks.length f = some t)
    (cd : Cd) (hcd : M.codes[f]? = some cd) (hm : args.length = t.ps.length) (hw : ∀ x ∈ args, 0 ≤ x ∧ x < 18446744073709551616) (hb : s.c.st.length ≤ 1000000000) :
    Calls Tryz.prog 93 #[.pointer (some ⟨P.mB, 0, none⟩), .int .u32 (f : Int), .slice A m c] w fun e w' => e = .returned (.tuple #[]) ∧
      To w S L u P M w' { s with c := { s.c with frs := s.c.frs ++ [⟨f, 0, t.rs.length, s.c.st.length, argsOf t.ps args ++ List.replicate cd.ls.length 0, [⟨(cd.body.length : Int) - 1, t.rs.length, s.c.st.length⟩]⟩] } } := by
  obtain ⟨fA, fc, c0⟩ := h.c0
  have m0 := h.sep.cell0 h.mach 0 _ rfl
  obtain ⟨rfl, hmc, hmm⟩ := hargs.len
  have hAc : A = none → c = 0 := by obtain ⟨A', c', hv, _, _, _, h4⟩ := hargs; cases hv; exact h4
  have HF := Lib.hid (function_yes h f hf t ht)
  have hps : t.ps.length ≤ 1000 ∧ t.rs.length ≤ 1000 := by
    obtain ⟨x, hx1, hx2, _⟩ := functionM_some ht
    exact (h.wf.ps t (List.mem_of_getElem? hx2)).2
  obtain ⟨mc, tA, fA', cA, bA, tc, fc', cc, bc, mv, tv, gv, ev, dv, hx⟩ := h.inx
  obtain ⟨cb, co, lA, lc, bA', bc', rfl, x0, x1, _, _⟩ := hx.body f cd hcd
  obtain ⟨fv, vv, sA, sN, sc, hs⟩ := h.stk
  have hsl := hs.len
  subst hsl
  have m1 := hx.m1
  have i11 := hx.i11
  have c1 := hs.c1
  have hcl := (List.getElem?_eq_some_iff.1 hcd).1
  have H := Lib.hid h
  have HA := Lib.hid hargs
  have HAC := Lib.hid hAc
  have HW := Lib.hid hw
  have HCD := Lib.hid hcd
  have HN := Lib.hid (And.intro hf (And.intro hn (And.intro hb (And.intro hps (And.intro hmc (h.wf.body cd (List.mem_of_getElem? hcd)))))))
  have HM := Lib.hid hm
  have d0 : decide (32 ≤ s.c.frs.length) = false := decide_eq_false (by omega)
  have d1 : decide ((32 : Int) ≤ (s.c.frs.length : Int)) = false := decide_eq_false (by omega)
  have d2 : ((args.length : Int) != (t.ps.length : Int)) = false := by rw [hm]; simp
  have d3 : ((args.length : Int) == (t.ps.length : Int)) = true := by rw [hm]; simp
  have KX := Lib.hid (And.intro m1 (And.intro i11 (And.intro x0 (And.intro x1 (And.intro c1 (And.intro hcl hs))))))
  clear h hf hargs hn hcd hm hw hb hmc hmm hAc ht hps hx hs m1 i11 x0 x1 c1 hcl
  go_enter Tryz.func93, Tryz.ntmps93
  go_wp2_with fail
  refine HF.out.mono ?_
  rintro e w1 ⟨pA, pc, rA, rc, rfl, hft, hst⟩
  have ST := Lib.hid (hst.alloc (.cells #[.slice pA t.ps.length pc, .slice rA t.rs.length rc] 65))
  have tB0 : (w1.alloc (.cells #[.slice pA t.ps.length pc, .slice rA t.rs.length rc] 65)).cell? ⟨w1.heap.size, 0, none⟩ = some (.slice pA t.ps.length pc) := by simp
  have tB1 : (w1.alloc (.cells #[.slice pA t.ps.length pc, .slice rA t.rs.length rc] 65)).cell? ⟨w1.heap.size, 1, none⟩ = some (.slice rA t.rs.length rc) := by simp
  have FT := Lib.hid hft
  clear hst hft
  go_wp2_with (go_at_call 52; (with_reducible refine (stuck_no _ _).mono ?_); rintro e w2 ⟨rfl, rfl⟩)
  generalize w1.heap.size = tB at *
  generalize w1.alloc (.cells #[.slice pA t.ps.length pc, .slice rA t.rs.length rc] 65) = w2 at *
  obtain ⟨hf, hn, hb, hps, hmc, hbd⟩ := HN.out
  have h2 := H.out.still ST.out
  have ra2 := (HA.out.mono (ST.out.ro H.out.sep.lt) (fun _ h => h) (fun _ _ h => h)).rd
  have hps1 : args.length ≤ 1000000000 := by rw [HM.out]; omega
  refine (clone_c w2 A _ c args HAC.out hmc ra2 hps1).mono ?_
  rintro e w3 ⟨B1, n1, c1, rfl, hr3, hg3, hf3⟩
  obtain ⟨s3, ro3⟩ := h2.sep.addRow (.loc u s.c.frs.length) hr3 hg3 hf3
  have hn1 : n1 = t.ps.length := by
    obtain ⟨A', n', c', hv, g1, _⟩ := hr3
    cases hv
    rw [ints_len, Nat.mul_one, HM.out] at g1
    exact g1.symm
  subst hn1
  have st3 : Still w2 w3 := Still.grown hg3
  have ro03 : Ro S w w3 := (ST.out.ro H.out.sep.lt).trans' ro3
  have lB := World.block_lt_of_cell? w2 _ tB0
  have T0 := st3.cell tB0
  have T1 := st3.cell tB1
  have C0 := (ST.out.trans st3).cell c0
  have M0 := (ST.out.trans st3).cell m0
  have KC := Lib.hid (And.intro s3 (And.intro ro03 (And.intro hr3 (And.intro hf3 (And.intro lB hg3)))))
  have K0 := Lib.hid (And.intro c0 m0)
  clear h2 ra2 hps1 hr3 hg3 hf3 s3 ro3 ro03 lB st3 tB0 tB1 c0 m0 hf hn hb hps hmc hbd HF
  go_wp2_with fail
  go_loopw [48] (fun i wr => ∃ j : Nat, j ≤ t.ps.length ∧ i = .int .i64 j ∧ Row wr 58 1 (.slice B1 t.ps.length c1) (ints .u64 (mixA t.ps args j)) ∧ w3.grownBy wr (rowBlock (.slice B1 t.ps.length c1))) (fun i _ => t.ps.length - (intOf i).toNat)
  case atStart =>
    refine ⟨0, Nat.zero_le _, rfl, ?_, ⟨rfl, rfl, rfl, Nat.le_refl _, fun _ _ _ => rfl⟩⟩
    rw [mixA_0]
    exact KC.out.2.2.1
  case round =>
    obtain ⟨j, hj, rfl, hrow, hgr⟩ := hrel
    have GR := Lib.hid hgr
    have RW := Lib.hid hrow
    clear hrow hgr
    obtain ⟨s3, ro03, hr3, hf3, lB, hg3⟩ := KC.out
    have far : ∀ (a : Addr) (v : Value), w3.cell? a = some v → a.block < w2.heap.size → wr.cell? a = some v := by
      intro a v hv hlt
      refine (World.cell?_of_block (GR.out.block a.block (World.block_lt_of_cell? w3 _ hv) fun he => ?_)).trans hv
      have := hf3 _ he.symm
      omega
    have FAR := Lib.hid far
    have T0' := far _ _ T0 lB
    have T1' := far _ _ T1 lB
    have l0 : P.cB < w2.heap.size := Nat.lt_of_lt_of_le (World.block_lt_of_cell? w _ K0.out.1) ST.out.1.1
    have l1 : P.mB < w2.heap.size := Nat.lt_of_lt_of_le (World.block_lt_of_cell? w _ K0.out.2) ST.out.1.1
    have C0' := far _ _ C0 l0
    have M0' := far _ _ M0 l1
    by_cases hlt : j < t.ps.length
    · obtain ⟨p, hp⟩ : ∃ p, t.ps[j]? = some p := ⟨_, List.getElem?_eq_getElem hlt⟩
      obtain ⟨x, hx⟩ : ∃ x, args[j]? = some x := ⟨_, List.getElem?_eq_getElem (by rw [HM.out]; exact hlt)⟩
      obtain ⟨pv, rv, hpr, hpR, _⟩ := FT.out
      obtain ⟨rfl, _⟩ : pv = .slice pA t.ps.length pc ∧ rv = .slice rA t.rs.length rc := by simp at hpr; exact ⟨hpr.1.symm, hpr.2.symm⟩
      obtain ⟨pb, po, v, rfl, hSb, hv1, pcell⟩ := hpR.get1 j p hp
      have hv1 : [v] = [.int .u8 p] := hv1
      obtain rfl : v = .int .u8 p := by simpa using hv1
      have pc3 : w3.cell? ⟨pb, po + j, none⟩ = some (.int .u8 p) := (World.cell?_of_block (a := ⟨pb, po + j, none⟩) (ro03.2 pb hSb)).trans pcell
      have pcr := far _ _ pc3 (Nat.lt_of_lt_of_le (H.out.sep.lt pb hSb) ST.out.1.1)
      have hxm := mixA_get HM.out j x hx
      have hB1 : ∃ g, B1 = some ⟨g, 0, none⟩ ∧ 0 < c1 := by
        obtain ⟨A', n', c', hv, _, hA', h2, _, h4⟩ := RW.out
        cases hv
        obtain ⟨g, cur, hg, _⟩ := h4 (by omega)
        exact ⟨g, hg, by omega⟩
      obtain ⟨g, rfl, hc1⟩ := hB1
      obtain ⟨lc, lz⟩ := Row.cell RW.out hc1 j (.int .u64 x) (ints_get _ _ _ _ hxm)
      have e0 : (0 : Int) ≤ (j : Int) := by omega
      have e1 : (j : Int) < (t.ps.length : Int) := by omega
      have hi1 : IntKind.i64.wrap ((j : Int) + 1) = (j : Int) + 1 := IntWalk.i64_in _ (by have := HN.out; omega)
      have hss := mixA_succ HM.out j p x hp hx
      by_cases h127 : p = 127
      · subst h127
        have hlow := and_low x (HW.out x (List.mem_of_getElem? hx)).1 (HW.out x (List.mem_of_getElem? hx)).2
        rw [if_pos rfl] at hss
        have hset := Row.set RW.out j (by rw [ints_len, mixA_len HM.out, HM.out]; exact hlt) (.int .u64 (lowI x))
        have hset' : (ints .u64 (mixA t.ps args j)).set j (.int .u64 (lowI x)) = ints .u64 (mixA t.ps args (j + 1)) := by rw [hss]; simp [ints, List.map_set]
        rw [hset'] at hset
        have HSE := Lib.hid (And.intro hset.1 (GR.out.trans hset.2))
        clear hset hset' hss far hpR hpr hp hx hxm pcell pc3 hSb s3 ro03 hr3 hf3 lB hg3 l0 l1
        go_wp2
        go_roundw
        case rel => exact ⟨j + 1, by omega, by go_num, HSE.out.1, HSE.out.2⟩
        case measure => (simp [intOf]; try omega)
      · have d127 : (p == 127) = false := beq_eq_false_iff_ne.2 h127
        rw [if_neg h127] at hss
        have hset' : mixA t.ps args j = mixA t.ps args (j + 1) := by rw [hss, List.set_getElem?_self' hxm]
        have HSE := Lib.hid (And.intro (hset' ▸ RW.out) GR.out)
        clear hset' hss far hpR hpr hp hx hxm pcell pc3 hSb s3 ro03 hr3 hf3 lB hg3 l0 l1
        go_wp2
        go_roundw
        case rel => exact ⟨j + 1, by omega, by go_num, HSE.out.1, HSE.out.2⟩
        case measure => (simp [intOf]; try omega)
    · obtain rfl : j = t.ps.length := by omega
      have w23 : ∀ (a : Addr) (v : Value), w.cell? a = some v → wr.cell? a = some v := fun a v hv => far _ _ ((ST.out.trans (Still.grown hg3)).cell hv) (Nat.lt_of_lt_of_le (World.block_lt_of_cell? w _ hv) ST.out.1.1)
      obtain ⟨m1, i11, x0, x1, c1, hcl, hs⟩ := KX.out
      have M1 := w23 _ _ m1
      have I11 := w23 _ _ i11
      have X0 := w23 _ _ x0
      have X1 := w23 _ _ x1
      have C1 := w23 _ _ c1
      have Z0 : wr.frozen? ⟨P.cB, P.co, none⟩ = false := by
        have e1 : wr.heap[P.cB]? = w3.heap[P.cB]? := GR.out.block P.cB (Nat.lt_of_lt_of_le l0 (Still.grown hg3).1.1) fun he => by have := hf3 _ he.symm; omega
        have e2 : w3.heap[P.cB]? = w.heap[P.cB]? := (ST.out.trans (Still.grown hg3)).2 P.cB (World.block_lt_of_cell? w _ K0.out.1)
        rw [World.frozen?_of_block (w := w) (a := ⟨P.cB, P.co, none⟩) (e1.trans e2)]
        exact hs.z _
      obtain ⟨s4, ro4⟩ := s3.grow (upd_same _ _ _) RW.out GR.out (.inl rfl)
      rw [upd_upd, mixA_all HM.out] at s4
      have d5 : decide (t.ps.length < t.ps.length) = false := by simp
      have g0 : (0 : Int) ≤ (f : Int) := by omega
      have g1 : (f : Int) < (M.codes.length : Int) := by omega
      have n1 : P.mB < wr.heap.size := World.block_lt_of_cell? wr _ M0'
      have n2 : P.cB < wr.heap.size := World.block_lt_of_cell? wr _ C0'
      have n3 : tB < wr.heap.size := World.block_lt_of_cell? wr _ T0'
      have n4 : P.iB < wr.heap.size := World.block_lt_of_cell? wr _ I11
      have n5 : cb < wr.heap.size := World.block_lt_of_cell? wr _ X0
      have hi1 : IntKind.i64.wrap (f : Int) = (f : Int) := IntWalk.i64_in _ (by have := HN.out; omega)
      have hi2 : IntKind.i64.wrap ((cd.body.length : Int) - 1) = (cd.body.length : Int) - 1 := IntWalk.i64_in _ (by have := HN.out; omega)
      have KS := Lib.hid (And.intro s4 (ro03.trans' (Ro.trans' ⟨⟨GR.out.size, GR.out.os, GR.out.output⟩, fun b hb => GR.out.block b (s3.lt b hb) (fun he => by have := hf3 _ he.symm; have := H.out.sep.lt b hb; have := ST.out.1.1; omega)⟩ (Ro.refl _ _))))
      clear s3 ro03 hr3 hf3 lB hg3 far w23 m1 i11 x0 x1 c1 hcl hs l0 l1 ro4 s4 hlt T0 T1 C0 M0 GR FAR d0 d1 d2 d3
      have KR := Lib.hid (mixA_all HM.out ▸ RW.out)
      go_wp2_with fail
      go_quiet (fail)
      go_wp2_with fail
      have sa : Still wr ((wr.alloc (.cells #[.slice lA cd.ls.length lc, .slice bA' cd.body.length bc'] 67)).drewN nq) := ((Still.refl wr).alloc _).drewN _
      have M0W := sa.cell M0'
      have C0W := sa.cell C0'
      have XW0 : ((wr.alloc (.cells #[.slice lA cd.ls.length lc, .slice bA' cd.body.length bc'] 67)).drewN nq).cell? ⟨wr.heap.size, 0, none⟩ = some (.slice lA cd.ls.length lc) := by simp
      have XW1 : ((wr.alloc (.cells #[.slice lA cd.ls.length lc, .slice bA' cd.body.length bc'] 67)).drewN nq).cell? ⟨wr.heap.size, 1, none⟩ = some (.slice bA' cd.body.length bc') := by simp
      have Z0W : ((wr.alloc (.cells #[.slice lA cd.ls.length lc, .slice bA' cd.body.length bc'] 67)).drewN nq).frozen? ⟨P.cB, P.co, none⟩ = false := (World.frozen?_of_block (a := ⟨P.cB, P.co, none⟩) (sa.2 P.cB n2)).trans Z0
      have KSW := Lib.hid (And.intro (KS.out.1.still sa.1.1 sa.2) (KS.out.2.trans' (sa.ro KS.out.1.lt)))
      have KRW : Row ((wr.alloc (.cells #[.slice lA cd.ls.length lc, .slice bA' cd.body.length bc'] 67)).drewN nq) 58 1 (.slice B1 t.ps.length c1) (ints .u64 (argsOf t.ps args)) := KS.out.1.still sa.1.1 sa.2 |>.holds _ _ (upd_same _ _ _)
      have KRW := Lib.hid KRW
      have hl : ∀ b, rowBlock (.slice B1 t.ps.length c1) = some b → w.heap.size ≤ b ∧ b < wr.heap.size := fun b hb => ⟨Nat.le_trans ST.out.1.1 (KC.out.2.2.2.1 b hb), Row.lt RW.out hb⟩
      have hxB : w.heap.size ≤ wr.heap.size := KS.out.2.1.1
      clear sa M0' C0' T0' T1' M1 I11 X0 X1 C1 Z0 n1 n2 n3 n4 n5 KS KR RW g0 g1 d5 hj KC ST FT HW HA HAC
      generalize (wr.alloc (.cells #[.slice lA cd.ls.length lc, .slice bA' cd.body.length bc'] 67)).drewN nq = W at *
      generalize wr.heap.size = xB at *
      have lmB : P.mB < w.heap.size := World.block_lt_of_cell? w _ K0.out.2
      have lcB : P.cB < w.heap.size := World.block_lt_of_cell? w _ K0.out.1
      have keep : ∀ (r : Option Nat) (W0 w4 : World), (∀ b, r = some b → b ≠ P.mB ∧ b ≠ P.cB ∧ b ≠ xB) → W0.cell? ⟨P.mB, 0, none⟩ = some (.pointer (some ⟨P.cB, P.co, none⟩)) ∧ W0.cell? ⟨P.cB, P.co, none⟩ = some (.slice fA s.c.frs.length fc) ∧ W0.cell? ⟨xB, 0, none⟩ = some (.slice lA cd.ls.length lc) ∧ W0.cell? ⟨xB, 1, none⟩ = some (.slice bA' cd.body.length bc') →
          W0.grownBy w4 r → w4.cell? ⟨P.mB, 0, none⟩ = some (.pointer (some ⟨P.cB, P.co, none⟩)) ∧ w4.cell? ⟨P.cB, P.co, none⟩ = some (.slice fA s.c.frs.length fc) ∧ w4.cell? ⟨xB, 0, none⟩ = some (.slice lA cd.ls.length lc) ∧ w4.cell? ⟨xB, 1, none⟩ = some (.slice bA' cd.body.length bc') := by
        intro r W0 w4 hr ⟨a1, a2, a3, a4⟩ g
        exact ⟨g.cell a1 (fun e => (hr _ e.symm).1 rfl), g.cell a2 (fun e => (hr _ e.symm).2.1 rfl), g.cell a3 (fun e => (hr _ e.symm).2.2 rfl), g.cell a4 (fun e => (hr _ e.symm).2.2 rfl)⟩
      obtain ⟨fv', sv', vv', hC, ⟨raws, hlen, hR, hA⟩, hSt, hV⟩ := H.out.cfg
      have hflat : ((s.c.frs.zip raws).flatMap fun p => frC p.1 p.2.1 p.2.2) = (s.c.frs.zip raws).flatMap frG := rfl
      rw [hflat] at hR
      obtain rfl : fv' = .slice fA s.c.frs.length fc := by have e1 := H.out.sep.cellA hC; rw [K0.out.1] at e1; injection e1 with e1; exact e1.symm
      have hfB : ∀ b, rowBlock (.slice fA s.c.frs.length fc) = some b → b ≠ P.mB ∧ b ≠ P.cB ∧ b ≠ xB := by
        intro b hb
        have h1 := Ck.lt (H.out.sep.holds _ _ hR) (b := b) hb
        refine ⟨?_, ?_, by omega⟩
        · rintro rfl
          exact H.out.sep.apart (.fr u) .mach _ _ (by simp) hR H.out.mach _ hb rfl
        · rintro rfl
          exact H.out.sep.apart (.fr u) (.cfg u) _ _ (by simp) hR hC _ hb rfl
      have KEEP1 := Lib.hid (fun W0 w4 => keep (rowBlock (.slice B1 t.ps.length c1)) W0 w4 (fun b hb => by have := hl b hb; omega))
      have KEEP2 := Lib.hid (fun W0 w4 => keep (rowBlock (.slice fA s.c.frs.length fc)) W0 w4 hfB)
      have fin : ∀ (w5 : World) (lv bv : Value), (Sep w5 S (upd (upd L (.loc u s.c.frs.length) (.rw 58 1 lv (ints .u64 (argsOf t.ps args ++ List.replicate cd.ls.length 0)))) (.lab u s.c.frs.length) (.rw 120 3 bv (labC [⟨(cd.body.length : Int) - 1, t.rs.length, s.c.st.length⟩]))) ∧ Ro S W.drew w5) →
          Row (w5.alloc (.cells #[.int .i64 f, .int .i64 0, .int .i64 t.rs.length, .int .i64 s.c.st.length, lv, bv] 118)) 118 6 (.slice fA s.c.frs.length fc) ((s.c.frs.zip raws).flatMap frG) ∧
          Rd (w5.alloc (.cells #[.int .i64 f, .int .i64 0, .int .i64 t.rs.length, .int .i64 s.c.st.length, lv, bv] 118)) 6 (some ⟨w5.heap.size, 0, none⟩) 1 [.int .i64 f, .int .i64 0, .int .i64 t.rs.length, .int .i64 s.c.st.length, lv, bv] ∧
          ∀ (B : Option Addr) (n6 c6 : Nat) (w7 : World), Row w7 118 6 (.slice B n6 c6) (((s.c.frs.zip raws).flatMap frG) ++ [.int .i64 f, .int .i64 0, .int .i64 t.rs.length, .int .i64 s.c.st.length, lv, bv]) →
            (w5.alloc (.cells #[.int .i64 f, .int .i64 0, .int .i64 t.rs.length, .int .i64 s.c.st.length, lv, bv] 118)).grownBy w7 (rowBlock (.slice fA s.c.frs.length fc)) →
            (rowBlock (.slice B n6 c6) = rowBlock (.slice fA s.c.frs.length fc) ∨ ∃ b, rowBlock (.slice B n6 c6) = some b ∧ (w5.alloc (.cells #[.int .i64 f, .int .i64 0, .int .i64 t.rs.length, .int .i64 s.c.st.length, lv, bv] 118)).heap.size ≤ b) →
            To w S L u P M (w7.setCell ⟨P.cB, P.co, none⟩ (.slice B n6 c6)) { s with c := { s.c with frs := s.c.frs ++ [⟨f, 0, t.rs.length, s.c.st.length, argsOf t.ps args ++ List.replicate cd.ls.length 0, [⟨(cd.body.length : Int) - 1, t.rs.length, s.c.st.length⟩]⟩] } } ∧ w7.frozen? ⟨P.cB, P.co, none⟩ = false := by
        intro w5 lv bv ⟨hs5, ro5⟩
        have hs6 := hs5.alloc (.cells #[.int .i64 f, .int .i64 0, .int .i64 t.rs.length, .int .i64 s.c.st.length, lv, bv] 118)
        have roW : Ro S w w5 := (KSW.out.2.trans' (⟨⟨Nat.le_refl _, rfl, rfl⟩, fun _ _ => rfl⟩ : Ro S W W.drew)).trans' ro5
        have ro6 : Ro S w (w5.alloc (.cells #[.int .i64 f, .int .i64 0, .int .i64 t.rs.length, .int .i64 s.c.st.length, lv, bv] 118)) := roW.trans' ⟨⟨by simp, rfl, rfl⟩, fun b hb => heap_alloc_old w5 _ (hs5.lt b hb)⟩
        have hR5 : upd (upd L (.loc u s.c.frs.length) (.rw 58 1 lv (ints .u64 (argsOf t.ps args ++ List.replicate cd.ls.length 0)))) (.lab u s.c.frs.length) (.rw 120 3 bv (labC [⟨(cd.body.length : Int) - 1, t.rs.length, s.c.st.length⟩])) (.fr u) = some (.rw 118 6 (.slice fA s.c.frs.length fc) ((s.c.frs.zip raws).flatMap frG)) := by
          rw [upd_other _ _ (by simp), upd_other _ _ (by simp)]; exact hR
        have hC5 : upd (upd L (.loc u s.c.frs.length) (.rw 58 1 lv (ints .u64 (argsOf t.ps args ++ List.replicate cd.ls.length 0)))) (.lab u s.c.frs.length) (.rw 120 3 bv (labC [⟨(cd.body.length : Int) - 1, t.rs.length, s.c.st.length⟩])) (.cfg u) = some (.cl P.cB P.co [.slice fA s.c.frs.length fc, sv', .bool s.c.ov, .int .i64 s.c.er, vv']) := by
          rw [upd_other _ _ (by simp), upd_other _ _ (by simp)]; exact hC
        refine ⟨hs6.holds _ _ hR5, ⟨rfl, fun _ => ⟨_, rfl, rfl, fun j v hv => ?_⟩⟩, fun B n6 c6 w7 hr hg ha => ⟨?_, ?_⟩⟩
        · rw [show (Addr.mk w5.heap.size 0 none).add j = ⟨w5.heap.size, j, none⟩ by unfold Addr.add; split <;> simp_all]
          simpa using hv
        · exact frames_push H.out ⟨f, 0, t.rs.length, s.c.st.length, argsOf t.ps args ++ List.replicate cd.ls.length 0, [⟨(cd.body.length : Int) - 1, t.rs.length, s.c.st.length⟩]⟩ hs6 ro6 rfl _ sv' vv' raws hC hlen hR hA hSt hV hr hg ha
        · exact ((hs6.grown_cell hR5 hg hC5 _ rfl).2).trans (hs6.frozen hC5 _)
      have FIN := Lib.hid fin
      have ROWA : Row W.drew 58 1 (.slice B1 t.ps.length c1) (ints .u64 (argsOf t.ps args)) := KRW.out
      have ROWA := Lib.hid ROWA
      have rowB : ∀ o, Row (W.drew.alloc o) 58 1 (.slice B1 t.ps.length c1) (ints .u64 (argsOf t.ps args)) := fun o => (KSW.out.1.drew.alloc o).holds _ _ (upd_same _ _ _)
      have ROWB := Lib.hid rowB
      have LBD := Lib.hid (show (argsOf t.ps args).length + cd.ls.length ≤ 1000000000 by rw [argsOf_len HM.out, HM.out]; have := HN.out; omega)
      have KSD := Lib.hid KSW.out.1.drew
      have hbt : ((s.c.frs.zip raws).flatMap frG).length = s.c.frs.length * 6 := by rw [flat_len frG 6 frG_len, List.length_zip, hlen, Nat.min_self]
      have HBT := Lib.hid (show (((s.c.frs.zip raws).flatMap frG).length + 6) * 80 ≤ 140737488355328 by rw [hbt]; have := HN.out; omega)
      clear keep fin rowB hbt hfB hl hxB lmB lcB KSW KRW hC hR hA hSt hV hlen hflat HCD K0 KX
      refine wp_region_z (fun w' => w'.cell? ⟨P.mB, 0, none⟩ = some (.pointer (some ⟨P.cB, P.co, none⟩)) ∧ w'.cell? ⟨P.cB, P.co, none⟩ = some (.slice fA s.c.frs.length fc) ∧ w'.cell? ⟨xB, 0, none⟩ = some (.slice lA cd.ls.length lc) ∧ w'.cell? ⟨xB, 1, none⟩ = some (.slice bA' cd.body.length bc')) (fun j => j == 31 || j == 32 || j == 33) (by kernel_rfl) ?_ (fun hHeld => ?_)
      · first | exact ⟨M0W, C0W, XW0, XW1⟩ | exact qk2 | exact qk | exact ⟨(World.cell?_alloc_some _ _ _ (Option.isSome_iff_exists.2 ⟨_, hHeld.1⟩)).trans hHeld.1, (World.cell?_alloc_some _ _ _ (Option.isSome_iff_exists.2 ⟨_, hHeld.2.1⟩)).trans hHeld.2.1, (World.cell?_alloc_some _ _ _ (Option.isSome_iff_exists.2 ⟨_, hHeld.2.2.1⟩)).trans hHeld.2.2.1, (World.cell?_alloc_some _ _ _ (Option.isSome_iff_exists.2 ⟨_, hHeld.2.2.2⟩)).trans hHeld.2.2.2⟩
      (refine wpZ_take (i := 0) (oi := ⟨some 84, .move (.tmp 0), 122, _, _, none⟩) (v := ?_) rfl (by kernel_rfl) (fun _ _ _ h => h) (by assumption) (Or.inl ⟨by rfl, ?_⟩) ?_; rotate_left 1; · ((intro w hSw; (try dsimp only at hSw); go_split_ands; go_simp) <;> (try with_reducible rfl)))
      try simp only [Act.put, List.setIfInBounds_toArray, List.set_cons_zero, List.set_cons_succ]
      (refine wpZ_take (i := 1) (oi := ⟨some 85, .nilCheck (.tmp 84), 0, _, _, none⟩) (v := ?_) rfl (by kernel_rfl) (fun _ _ _ h => h) (by assumption) (Or.inl ⟨by rfl, ?_⟩) ?_; rotate_left 1; · ((intro w hSw; (try dsimp only at hSw); go_split_ands; go_simp) <;> (try with_reducible rfl)))
      try simp only [Act.put, List.setIfInBounds_toArray, List.set_cons_zero, List.set_cons_succ]
      (refine wpZ_take (i := 2) (oi := ⟨some 86, .fieldAddr 124 (.tmp 85) 0, 0, _, _, none⟩) (v := ?_) rfl (by kernel_rfl) (fun _ _ _ h => h) (by assumption) (Or.inl ⟨by rfl, ?_⟩) ?_; rotate_left 1; · ((intro w hSw; (try dsimp only at hSw); go_split_ands; go_simp) <;> (try with_reducible rfl)))
      try simp only [Act.put, List.setIfInBounds_toArray, List.set_cons_zero, List.set_cons_succ]
      (refine wpZ_take (i := 3) (oi := ⟨some 87, .load 53 (.tmp 86), 53, _, _, none⟩) (v := ?_) rfl (by kernel_rfl) (fun _ _ _ h => h) (by assumption) (Or.inl ⟨by rfl, ?_⟩) ?_; rotate_left 1; · ((intro w hSw; (try dsimp only at hSw); go_split_ands; go_simp) <;> (try with_reducible rfl)))
      try simp only [Act.put, List.setIfInBounds_toArray, List.set_cons_zero, List.set_cons_succ]
      (refine wpZ_take (i := 4) (oi := ⟨some 88, .move (.tmp 0), 122, _, _, none⟩) (v := ?_) rfl (by kernel_rfl) (fun _ _ _ h => h) (by assumption) (Or.inl ⟨by rfl, ?_⟩) ?_; rotate_left 1; · ((intro w hSw; (try dsimp only at hSw); go_split_ands; go_simp) <;> (try with_reducible rfl)))
      try simp only [Act.put, List.setIfInBounds_toArray, List.set_cons_zero, List.set_cons_succ]
      (refine wpZ_take (i := 5) (oi := ⟨some 89, .nilCheck (.tmp 88), 0, _, _, none⟩) (v := ?_) rfl (by kernel_rfl) (fun _ _ _ h => h) (by assumption) (Or.inl ⟨by rfl, ?_⟩) ?_; rotate_left 1; · ((intro w hSw; (try dsimp only at hSw); go_split_ands; go_simp) <;> (try with_reducible rfl)))
      try simp only [Act.put, List.setIfInBounds_toArray, List.set_cons_zero, List.set_cons_succ]
      (refine wpZ_take (i := 6) (oi := ⟨some 90, .fieldAddr 124 (.tmp 89) 0, 0, _, _, none⟩) (v := ?_) rfl (by kernel_rfl) (fun _ _ _ h => h) (by assumption) (Or.inl ⟨by rfl, ?_⟩) ?_; rotate_left 1; · ((intro w hSw; (try dsimp only at hSw); go_split_ands; go_simp) <;> (try with_reducible rfl)))
      try simp only [Act.put, List.setIfInBounds_toArray, List.set_cons_zero, List.set_cons_succ]
      (refine wpZ_take (i := 7) (oi := ⟨some 91, .load 53 (.tmp 90), 53, _, _, none⟩) (v := ?_) rfl (by kernel_rfl) (fun _ _ _ h => h) (by assumption) (Or.inl ⟨by rfl, ?_⟩) ?_; rotate_left 1; · ((intro w hSw; (try dsimp only at hSw); go_split_ands; go_simp) <;> (try with_reducible rfl)))
      try simp only [Act.put, List.setIfInBounds_toArray, List.set_cons_zero, List.set_cons_succ]
      (refine wpZ_take (i := 8) (oi := ⟨some 92, .nilCheck (.tmp 91), 0, _, _, none⟩) (v := ?_) rfl (by kernel_rfl) (fun _ _ _ h => h) (by assumption) (Or.inl ⟨by rfl, ?_⟩) ?_; rotate_left 1; · ((intro w hSw; (try dsimp only at hSw); go_split_ands; go_simp) <;> (try with_reducible rfl)))
      try simp only [Act.put, List.setIfInBounds_toArray, List.set_cons_zero, List.set_cons_succ]
      (refine wpZ_take (i := 9) (oi := ⟨some 93, .fieldAddr 48 (.tmp 92) 0, 0, _, _, none⟩) (v := ?_) rfl (by kernel_rfl) (fun _ _ _ h => h) (by assumption) (Or.inl ⟨by rfl, ?_⟩) ?_; rotate_left 1; · ((intro w hSw; (try dsimp only at hSw); go_split_ands; go_simp) <;> (try with_reducible rfl)))
      try simp only [Act.put, List.setIfInBounds_toArray, List.set_cons_zero, List.set_cons_succ]
      (refine wpZ_take (i := 10) (oi := ⟨some 94, .load 45 (.tmp 93), 45, _, _, none⟩) (v := ?_) rfl (by kernel_rfl) (fun _ _ _ h => h) (by assumption) (Or.inl ⟨by rfl, ?_⟩) ?_; rotate_left 1; · ((intro w hSw; (try dsimp only at hSw); go_split_ands; go_simp) <;> (try with_reducible rfl)))
      try simp only [Act.put, List.setIfInBounds_toArray, List.set_cons_zero, List.set_cons_succ]
      (refine wpZ_take (i := 11) (oi := ⟨some 95, .move (.tmp 1), 28, _, _, none⟩) (v := ?_) rfl (by kernel_rfl) (fun _ _ _ h => h) (by assumption) (Or.inl ⟨by rfl, ?_⟩) ?_; rotate_left 1; · ((intro w hSw; (try dsimp only at hSw); go_split_ands; go_simp) <;> (try with_reducible rfl)))
      try simp only [Act.put, List.setIfInBounds_toArray, List.set_cons_zero, List.set_cons_succ]
      (refine wpZ_take (i := 12) (oi := ⟨some 96, .convert 28 3 (.tmp 95), 3, _, _, none⟩) (v := ?_) rfl (by kernel_rfl) (fun _ _ _ h => h) (by assumption) (Or.inl ⟨by rfl, ?_⟩) ?_; rotate_left 1; · ((intro w hSw; (try dsimp only at hSw); go_split_ands; go_simp) <;> (try with_reducible rfl)))
      try simp only [Act.put, List.setIfInBounds_toArray, List.set_cons_zero, List.set_cons_succ]
      (refine wpZ_take (i := 13) (oi := ⟨some 97, .move (.tmp 12), 3, _, _, none⟩) (v := ?_) rfl (by kernel_rfl) (fun _ _ _ h => h) (by assumption) (Or.inl ⟨by rfl, ?_⟩) ?_; rotate_left 1; · ((intro w hSw; (try dsimp only at hSw); go_split_ands; go_simp) <;> (try with_reducible rfl)))
      try simp only [Act.put, List.setIfInBounds_toArray, List.set_cons_zero, List.set_cons_succ]
      (refine wpZ_take (i := 14) (oi := ⟨some 98, .move (.tmp 13), 3, _, _, none⟩) (v := ?_) rfl (by kernel_rfl) (fun _ _ _ h => h) (by assumption) (Or.inl ⟨by rfl, ?_⟩) ?_; rotate_left 1; · ((intro w hSw; (try dsimp only at hSw); go_split_ands; go_simp) <;> (try with_reducible rfl)))
      try simp only [Act.put, List.setIfInBounds_toArray, List.set_cons_zero, List.set_cons_succ]
      (refine wpZ_take (i := 15) (oi := ⟨some 99, .move (.tmp 8), 23, _, _, none⟩) (v := ?_) rfl (by kernel_rfl) (fun _ _ _ h => h) (by assumption) (Or.inl ⟨by rfl, ?_⟩) ?_; rotate_left 1; · ((intro w hSw; (try dsimp only at hSw); go_split_ands; go_simp) <;> (try with_reducible rfl)))
      try simp only [Act.put, List.setIfInBounds_toArray, List.set_cons_zero, List.set_cons_succ]
      (refine wpZ_take (i := 16) (oi := ⟨some 100, .fieldAddr 67 (.tmp 11) 0, 0, _, _, none⟩) (v := ?_) rfl (by kernel_rfl) (fun _ _ _ h => h) (by assumption) (Or.inl ⟨by rfl, ?_⟩) ?_; rotate_left 1; · ((intro w hSw; (try dsimp only at hSw); go_split_ands; go_simp) <;> (try with_reducible rfl)))
      try simp only [Act.put, List.setIfInBounds_toArray, List.set_cons_zero, List.set_cons_succ]
      (refine wpZ_take (i := 17) (oi := ⟨some 101, .load 22 (.tmp 100), 22, _, _, none⟩) (v := ?_) rfl (by kernel_rfl) (fun _ _ _ h => h) (by assumption) (Or.inl ⟨by rfl, ?_⟩) ?_; rotate_left 1; · ((intro w hSw; (try dsimp only at hSw); go_split_ands; go_simp) <;> (try with_reducible rfl)))
      try simp only [Act.put, List.setIfInBounds_toArray, List.set_cons_zero, List.set_cons_succ]
      (refine wpZ_take (i := 18) (oi := ⟨some 102, .call { callee := .builtin .len, args := #[.tmp 101], argTypes := #[22] }, 3, _, _, none⟩) (v := ?_) rfl (by kernel_rfl) (fun _ _ _ h => h) (by assumption) (Or.inl ⟨by rfl, ?_⟩) ?_; rotate_left 1; · ((intro w hSw; (try dsimp only at hSw); go_split_ands; go_simp) <;> (try with_reducible rfl)))
      try simp only [Act.put, List.setIfInBounds_toArray, List.set_cons_zero, List.set_cons_succ]
      (refine wpZ_take (i := 20) (oi := ⟨some 104, .fieldAddr 67 (.tmp 11) 1, 0, _, _, none⟩) (v := ?_) rfl (by kernel_rfl) (fun _ _ _ h => h) (by assumption) (Or.inl ⟨by rfl, ?_⟩) ?_; rotate_left 1; · ((intro w hSw; (try dsimp only at hSw); go_split_ands; go_simp) <;> (try with_reducible rfl)))
      try simp only [Act.put, List.setIfInBounds_toArray, List.set_cons_zero, List.set_cons_succ]
      (refine wpZ_take (i := 21) (oi := ⟨some 105, .load 57 (.tmp 104), 57, _, _, none⟩) (v := ?_) rfl (by kernel_rfl) (fun _ _ _ h => h) (by assumption) (Or.inl ⟨by rfl, ?_⟩) ?_; rotate_left 1; · ((intro w hSw; (try dsimp only at hSw); go_split_ands; go_simp) <;> (try with_reducible rfl)))
      try simp only [Act.put, List.setIfInBounds_toArray, List.set_cons_zero, List.set_cons_succ]
      (refine wpZ_take (i := 22) (oi := ⟨some 106, .call { callee := .builtin .len, args := #[.tmp 105], argTypes := #[57] }, 3, _, _, none⟩) (v := ?_) rfl (by kernel_rfl) (fun _ _ _ h => h) (by assumption) (Or.inl ⟨by rfl, ?_⟩) ?_; rotate_left 1; · ((intro w hSw; (try dsimp only at hSw); go_split_ands; go_simp) <;> (try with_reducible rfl)))
      try simp only [Act.put, List.setIfInBounds_toArray, List.set_cons_zero, List.set_cons_succ]
      (refine wpZ_take (i := 23) (oi := ⟨some 107, .binOp .sub 3 (.tmp 106) (.const (.int .i64 1)) 3, 3, _, _, none⟩) (v := ?_) rfl (by kernel_rfl) (fun _ _ _ h => h) (by assumption) (Or.inl ⟨by rfl, ?_⟩) ?_; rotate_left 1; · ((intro w hSw; (try dsimp only at hSw); go_split_ands; go_simp) <;> (try with_reducible rfl)))
      try simp only [Act.put, List.setIfInBounds_toArray, List.set_cons_zero, List.set_cons_succ]
      (refine wpZ_take (i := 24) (oi := ⟨some 108, .move (.tmp 12), 3, _, _, none⟩) (v := ?_) rfl (by kernel_rfl) (fun _ _ _ h => h) (by assumption) (Or.inl ⟨by rfl, ?_⟩) ?_; rotate_left 1; · ((intro w hSw; (try dsimp only at hSw); go_split_ands; go_simp) <;> (try with_reducible rfl)))
      try simp only [Act.put, List.setIfInBounds_toArray, List.set_cons_zero, List.set_cons_succ]
      (refine wpZ_take (i := 25) (oi := ⟨some 109, .move (.tmp 13), 3, _, _, none⟩) (v := ?_) rfl (by kernel_rfl) (fun _ _ _ h => h) (by assumption) (Or.inl ⟨by rfl, ?_⟩) ?_; rotate_left 1; · ((intro w hSw; (try dsimp only at hSw); go_split_ands; go_simp) <;> (try with_reducible rfl)))
      try simp only [Act.put, List.setIfInBounds_toArray, List.set_cons_zero, List.set_cons_succ]
      (refine wpZ_take (i := 26) (oi := ⟨some 110, .build 120 #[(0, .tmp 107), (1, .tmp 108), (2, .tmp 109)], 120, _, _, none⟩) (v := ?_) rfl (by kernel_rfl) (fun _ _ _ h => h) (by assumption) (Or.inl ⟨by rfl, ?_⟩) ?_; rotate_left 1; · ((intro w hSw; (try dsimp only at hSw); go_split_ands; go_simp) <;> (try with_reducible rfl)))
      try simp only [Act.put, List.setIfInBounds_toArray, List.set_cons_zero, List.set_cons_succ]
      refine wpZ_two (i := 19) (j := 27) (oi := ⟨some 103, .call { callee := .value (.func 160), args := #[.tmp 99, .tmp 102], argTypes := #[23, 3] }, 23, _, _, none⟩) (oj := ⟨some 111, .buildSlice 116 1 #[(0, .tmp 110)], 116, _, _, none⟩) rfl rfl (by kernel_rfl) (fun K hK => ?_) (fun K hK => ?_)
      ·
        go_simp; refine (zeroes_c _ B1 _ c1 cd.ls.length (argsOf t.ps args) (by first | exact ROWA.out | exact ROWB.out _) LBD.out).mono ?_; rintro e w4 ⟨B2, n2, c2, rfl, zr, zg, za⟩; have qk := KEEP1.out _ _ hHeld zg; (try have FX := Lib.hid (FIN.out _ _ _ (locs_B KSD.out zr zg za))); have ZR := Lib.hid zr; have ZG := Lib.hid zg; have ZA := Lib.hid za; clear zr zg za; go_wp2_with fail
        refine hK.out _ _ (fun _ => by (first | exact ⟨M0W, C0W, XW0, XW1⟩ | exact qk2 | exact qk | exact ⟨(World.cell?_alloc_some _ _ _ (Option.isSome_iff_exists.2 ⟨_, hHeld.1⟩)).trans hHeld.1, (World.cell?_alloc_some _ _ _ (Option.isSome_iff_exists.2 ⟨_, hHeld.2.1⟩)).trans hHeld.2.1, (World.cell?_alloc_some _ _ _ (Option.isSome_iff_exists.2 ⟨_, hHeld.2.2.1⟩)).trans hHeld.2.2.1, (World.cell?_alloc_some _ _ _ (Option.isSome_iff_exists.2 ⟨_, hHeld.2.2.2⟩)).trans hHeld.2.2.2⟩)) (fun hh => ?_)
        have hHeld := hh rfl
        clear hK K
        try simp only [Act.put, List.setIfInBounds_toArray, List.set_cons_zero, List.set_cons_succ]
        refine wpZ_one (i := 27) (oi := ⟨some 111, .buildSlice 116 1 #[(0, .tmp 110)], 116, _, _, none⟩) rfl (by kernel_rfl) (fun K hK => ?_)
        go_simp; (try have FX := Lib.hid (FIN.out _ _ _ (locs_A (lb := ⟨(cd.body.length : Int) - 1, t.rs.length, s.c.st.length⟩) KSD.out ZR.out ZG.out ZA.out)))
        refine hK.out _ _ (fun _ => by (first | exact ⟨M0W, C0W, XW0, XW1⟩ | exact qk2 | exact qk | exact ⟨(World.cell?_alloc_some _ _ _ (Option.isSome_iff_exists.2 ⟨_, hHeld.1⟩)).trans hHeld.1, (World.cell?_alloc_some _ _ _ (Option.isSome_iff_exists.2 ⟨_, hHeld.2.1⟩)).trans hHeld.2.1, (World.cell?_alloc_some _ _ _ (Option.isSome_iff_exists.2 ⟨_, hHeld.2.2.1⟩)).trans hHeld.2.2.1, (World.cell?_alloc_some _ _ _ (Option.isSome_iff_exists.2 ⟨_, hHeld.2.2.2⟩)).trans hHeld.2.2.2⟩)) (fun hh => ?_)
        have hHeld := hh rfl
        clear hK K
        try simp only [Act.put, List.setIfInBounds_toArray, List.set_cons_zero, List.set_cons_succ]
        (refine wpZ_take (i := 28) (oi := ⟨some 112, .build 118 #[(0, .tmp 96), (2, .tmp 97), (3, .tmp 98), (4, .tmp 103), (5, .tmp 111)], 118, _, _, none⟩) (v := ?_) rfl (by kernel_rfl) (fun _ _ _ h => h) (by assumption) (Or.inl ⟨by rfl, ?_⟩) ?_; rotate_left 1; · ((intro w hSw; (try dsimp only at hSw); go_split_ands; go_simp) <;> (try with_reducible rfl)))
        try simp only [Act.put, List.setIfInBounds_toArray, List.set_cons_zero, List.set_cons_succ]
        refine wpZ_one (i := 29) (oi := ⟨some 113, .buildSlice 45 1 #[(0, .tmp 112)], 45, _, _, none⟩) rfl (by kernel_rfl) (fun K hK => ?_)
        go_simp
        refine hK.out _ _ (fun _ => by (first | exact ⟨M0W, C0W, XW0, XW1⟩ | exact qk2 | exact qk | exact ⟨(World.cell?_alloc_some _ _ _ (Option.isSome_iff_exists.2 ⟨_, hHeld.1⟩)).trans hHeld.1, (World.cell?_alloc_some _ _ _ (Option.isSome_iff_exists.2 ⟨_, hHeld.2.1⟩)).trans hHeld.2.1, (World.cell?_alloc_some _ _ _ (Option.isSome_iff_exists.2 ⟨_, hHeld.2.2.1⟩)).trans hHeld.2.2.1, (World.cell?_alloc_some _ _ _ (Option.isSome_iff_exists.2 ⟨_, hHeld.2.2.2⟩)).trans hHeld.2.2.2⟩)) (fun hh => ?_)
        have hHeld := hh rfl
        clear hK K
        try simp only [Act.put, List.setIfInBounds_toArray, List.set_cons_zero, List.set_cons_succ]
        refine wpZ_one (i := 30) (oi := ⟨some 114, .call { callee := .builtin .append, args := #[.tmp 94, .tmp 113], argTypes := #[45, 45] }, 45, _, _, none⟩) rfl (by kernel_rfl) (fun K hK => ?_)
        refine step_append_row (by rfl) _ _ _ (by rfl) 118 6 _ 80 Tryz.underlying45 infoFr rfl (by omega) (by omega) (.slice fA s.c.frs.length fc) _ (by rfl) _ 1 1 _ (by first | rfl | (simp [Act.eval]; done)) FX.out.1 FX.out.2.1 (by simp [Value.oneCell']) HBT.out ?_; intro B6 n6 c6 w7 hr6 hg6 ha6; have qk2 := KEEP2.out _ _ hHeld hg6.out; obtain ⟨q1, q2⟩ := FX.out.2.2 _ _ _ _ hr6.out hg6.out ha6.out; have Q1 := Lib.hid q1; clear q1; have qc := qk2.2.1
        refine hK.out _ _ (fun _ => by (first | exact ⟨M0W, C0W, XW0, XW1⟩ | exact qk2 | exact qk | exact ⟨(World.cell?_alloc_some _ _ _ (Option.isSome_iff_exists.2 ⟨_, hHeld.1⟩)).trans hHeld.1, (World.cell?_alloc_some _ _ _ (Option.isSome_iff_exists.2 ⟨_, hHeld.2.1⟩)).trans hHeld.2.1, (World.cell?_alloc_some _ _ _ (Option.isSome_iff_exists.2 ⟨_, hHeld.2.2.1⟩)).trans hHeld.2.2.1, (World.cell?_alloc_some _ _ _ (Option.isSome_iff_exists.2 ⟨_, hHeld.2.2.2⟩)).trans hHeld.2.2.2⟩)) (fun hh => ?_)
        have hHeld := hh rfl
        clear hK K
        try simp only [Act.put, List.setIfInBounds_toArray, List.set_cons_zero, List.set_cons_succ]
        refine wpZ_one (i := 31) (oi := ⟨some 115, .nilCheck (.tmp 87), 0, _, _, none⟩) rfl (by kernel_rfl) (fun K hK => ?_)
        go_simp
        refine hK.out _ _ (fun h => by simp at h) (fun _ => ?_)
        clear hK K
        try simp only [Act.put, List.setIfInBounds_toArray, List.set_cons_zero, List.set_cons_succ]
        refine wpZ_one (i := 32) (oi := ⟨some 116, .fieldAddr 48 (.tmp 115) 0, 0, _, _, none⟩) rfl (by kernel_rfl) (fun K hK => ?_)
        go_simp
        refine hK.out _ _ (fun h => by simp at h) (fun _ => ?_)
        clear hK K
        try simp only [Act.put, List.setIfInBounds_toArray, List.set_cons_zero, List.set_cons_succ]
        refine wpZ_one (i := 33) (oi := ⟨none, .store 45 (.tmp 116) (.tmp 114), 0, _, _, none⟩) rfl (by kernel_rfl) (fun K hK => ?_)
        go_simp
        refine hK.out _ _ (fun h => by simp at h) (fun _ => ?_)
        clear hK K
        try simp only [Act.put, List.setIfInBounds_toArray, List.set_cons_zero, List.set_cons_succ]
        refine wpZ_done (by kernel_rfl) ?_ _
        go_wp2; go_end0; exact ⟨rfl, Q1.out⟩
      ·
        go_simp; (try have FX := Lib.hid (FIN.out _ _ _ (locs_A (lb := ⟨(cd.body.length : Int) - 1, t.rs.length, s.c.st.length⟩) KSD.out ZR.out ZG.out ZA.out)))
        refine hK.out _ _ (fun _ => by (first | exact ⟨M0W, C0W, XW0, XW1⟩ | exact qk2 | exact qk | exact ⟨(World.cell?_alloc_some _ _ _ (Option.isSome_iff_exists.2 ⟨_, hHeld.1⟩)).trans hHeld.1, (World.cell?_alloc_some _ _ _ (Option.isSome_iff_exists.2 ⟨_, hHeld.2.1⟩)).trans hHeld.2.1, (World.cell?_alloc_some _ _ _ (Option.isSome_iff_exists.2 ⟨_, hHeld.2.2.1⟩)).trans hHeld.2.2.1, (World.cell?_alloc_some _ _ _ (Option.isSome_iff_exists.2 ⟨_, hHeld.2.2.2⟩)).trans hHeld.2.2.2⟩)) (fun hh => ?_)
        have hHeld := hh rfl
        clear hK K
        try simp only [Act.put, List.setIfInBounds_toArray, List.set_cons_zero, List.set_cons_succ]
        refine wpZ_one (i := 19) (oi := ⟨some 103, .call { callee := .value (.func 160), args := #[.tmp 99, .tmp 102], argTypes := #[23, 3] }, 23, _, _, none⟩) rfl (by kernel_rfl) (fun K hK => ?_)
        go_simp; refine (zeroes_c _ B1 _ c1 cd.ls.length (argsOf t.ps args) (by first | exact ROWA.out | exact ROWB.out _) LBD.out).mono ?_; rintro e w4 ⟨B2, n2, c2, rfl, zr, zg, za⟩; have qk := KEEP1.out _ _ hHeld zg; (try have FX := Lib.hid (FIN.out _ _ _ (locs_B KSD.out zr zg za))); have ZR := Lib.hid zr; have ZG := Lib.hid zg; have ZA := Lib.hid za; clear zr zg za; go_wp2_with fail
        refine hK.out _ _ (fun _ => by (first | exact ⟨M0W, C0W, XW0, XW1⟩ | exact qk2 | exact qk | exact ⟨(World.cell?_alloc_some _ _ _ (Option.isSome_iff_exists.2 ⟨_, hHeld.1⟩)).trans hHeld.1, (World.cell?_alloc_some _ _ _ (Option.isSome_iff_exists.2 ⟨_, hHeld.2.1⟩)).trans hHeld.2.1, (World.cell?_alloc_some _ _ _ (Option.isSome_iff_exists.2 ⟨_, hHeld.2.2.1⟩)).trans hHeld.2.2.1, (World.cell?_alloc_some _ _ _ (Option.isSome_iff_exists.2 ⟨_, hHeld.2.2.2⟩)).trans hHeld.2.2.2⟩)) (fun hh => ?_)
        have hHeld := hh rfl
        clear hK K
        try simp only [Act.put, List.setIfInBounds_toArray, List.set_cons_zero, List.set_cons_succ]
        (refine wpZ_take (i := 28) (oi := ⟨some 112, .build 118 #[(0, .tmp 96), (2, .tmp 97), (3, .tmp 98), (4, .tmp 103), (5, .tmp 111)], 118, _, _, none⟩) (v := ?_) rfl (by kernel_rfl) (fun _ _ _ h => h) (by assumption) (Or.inl ⟨by rfl, ?_⟩) ?_; rotate_left 1; · ((intro w hSw; (try dsimp only at hSw); go_split_ands; go_simp) <;> (try with_reducible rfl)))
        try simp only [Act.put, List.setIfInBounds_toArray, List.set_cons_zero, List.set_cons_succ]
        refine wpZ_one (i := 29) (oi := ⟨some 113, .buildSlice 45 1 #[(0, .tmp 112)], 45, _, _, none⟩) rfl (by kernel_rfl) (fun K hK => ?_)
        go_simp
        refine hK.out _ _ (fun _ => by (first | exact ⟨M0W, C0W, XW0, XW1⟩ | exact qk2 | exact qk | exact ⟨(World.cell?_alloc_some _ _ _ (Option.isSome_iff_exists.2 ⟨_, hHeld.1⟩)).trans hHeld.1, (World.cell?_alloc_some _ _ _ (Option.isSome_iff_exists.2 ⟨_, hHeld.2.1⟩)).trans hHeld.2.1, (World.cell?_alloc_some _ _ _ (Option.isSome_iff_exists.2 ⟨_, hHeld.2.2.1⟩)).trans hHeld.2.2.1, (World.cell?_alloc_some _ _ _ (Option.isSome_iff_exists.2 ⟨_, hHeld.2.2.2⟩)).trans hHeld.2.2.2⟩)) (fun hh => ?_)
        have hHeld := hh rfl
        clear hK K
        try simp only [Act.put, List.setIfInBounds_toArray, List.set_cons_zero, List.set_cons_succ]
        refine wpZ_one (i := 30) (oi := ⟨some 114, .call { callee := .builtin .append, args := #[.tmp 94, .tmp 113], argTypes := #[45, 45] }, 45, _, _, none⟩) rfl (by kernel_rfl) (fun K hK => ?_)
        refine step_append_row (by rfl) _ _ _ (by rfl) 118 6 _ 80 Tryz.underlying45 infoFr rfl (by omega) (by omega) (.slice fA s.c.frs.length fc) _ (by rfl) _ 1 1 _ (by first | rfl | (simp [Act.eval]; done)) FX.out.1 FX.out.2.1 (by simp [Value.oneCell']) HBT.out ?_; intro B6 n6 c6 w7 hr6 hg6 ha6; have qk2 := KEEP2.out _ _ hHeld hg6.out; obtain ⟨q1, q2⟩ := FX.out.2.2 _ _ _ _ hr6.out hg6.out ha6.out; have Q1 := Lib.hid q1; clear q1; have qc := qk2.2.1
        refine hK.out _ _ (fun _ => by (first | exact ⟨M0W, C0W, XW0, XW1⟩ | exact qk2 | exact qk | exact ⟨(World.cell?_alloc_some _ _ _ (Option.isSome_iff_exists.2 ⟨_, hHeld.1⟩)).trans hHeld.1, (World.cell?_alloc_some _ _ _ (Option.isSome_iff_exists.2 ⟨_, hHeld.2.1⟩)).trans hHeld.2.1, (World.cell?_alloc_some _ _ _ (Option.isSome_iff_exists.2 ⟨_, hHeld.2.2.1⟩)).trans hHeld.2.2.1, (World.cell?_alloc_some _ _ _ (Option.isSome_iff_exists.2 ⟨_, hHeld.2.2.2⟩)).trans hHeld.2.2.2⟩)) (fun hh => ?_)
        have hHeld := hh rfl
        clear hK K
        try simp only [Act.put, List.setIfInBounds_toArray, List.set_cons_zero, List.set_cons_succ]
        refine wpZ_one (i := 31) (oi := ⟨some 115, .nilCheck (.tmp 87), 0, _, _, none⟩) rfl (by kernel_rfl) (fun K hK => ?_)
        go_simp
        refine hK.out _ _ (fun h => by simp at h) (fun _ => ?_)
        clear hK K
        try simp only [Act.put, List.setIfInBounds_toArray, List.set_cons_zero, List.set_cons_succ]
        refine wpZ_one (i := 32) (oi := ⟨some 116, .fieldAddr 48 (.tmp 115) 0, 0, _, _, none⟩) rfl (by kernel_rfl) (fun K hK => ?_)
        go_simp
        refine hK.out _ _ (fun h => by simp at h) (fun _ => ?_)
        clear hK K
        try simp only [Act.put, List.setIfInBounds_toArray, List.set_cons_zero, List.set_cons_succ]
        refine wpZ_one (i := 33) (oi := ⟨none, .store 45 (.tmp 116) (.tmp 114), 0, _, _, none⟩) rfl (by kernel_rfl) (fun K hK => ?_)
        go_simp
        refine hK.out _ _ (fun h => by simp at h) (fun _ => ?_)
        clear hK K
        try simp only [Act.put, List.setIfInBounds_toArray, List.set_cons_zero, List.set_cons_succ]
        refine wpZ_done (by kernel_rfl) ?_ _
        go_wp2; go_end0; exact ⟨rfl, Q1.out⟩
end Go.Proofs.YtjbdldekllffkaaGreatDoor
/- inst's maker while it makes. -/
set_option linter.unusedVariables false
set_option linter.unusedSimpArgs false
namespace Go.Proofs.YtjbdldekllffkaaGreatDoor
open Go.RowKit Go.Sep Go.St
def esF (es : Es) : Int → Option (Int × Int) := getE es
/-- The maker: the instance it makes, and its error. -/
structure Mkr (w : World) (S : Nat → Prop) (L : Key → Option Ck) (u iB : Nat) (M : Mo) (mc : List Value) (bv mv tv gv ev dv : Value) (er : Int) (bl : List Es) (I : In) : Prop where
  sep : Sep w S L
  mach : L .mach = none
  cfg : L (.cfg u) = none
  ins : L (.ins u) = some (.cl iB 0 (mc ++ [bv, mv, tv, gv, ev, dv, .int .i64 er]))
  mod : ModR w S M mc
  bls : ∃ raws : List Value, L (.tmp 3) = some (.rw 195 1 bv raws) ∧ raws.length = bl.length ∧ ∀ (k : Nat) r es, raws[k]? = some r → bl[k]? = some es → ∃ b, r = .map (some b) ∧ S b ∧ MapF w b es
  mem : L (.mem u) = some (.rw 5 1 mv (ints .u8 I.mem))
  tabs : TabsAt L u tv I.tabs
  glo : L (.glo u) = some (.rw 58 1 gv (ints .u64 I.glo))
  els : L (.els u) = some (.rw 4 1 ev (bools I.els))
  das : L (.das u) = some (.rw 4 1 dv (bools I.das))
  wf : Wf M
section
variable {w : World} {S : Nat → Prop} {L : Key → Option Ck} {u iB : Nat} {M : Mo} {mc : List Value} {bv mv tv gv ev dv : Value} {er : Int} {bl : List Es} {I : In}
/-- All that the maker has is as it was, or its cells are others. -/
theorem Mkr.move {w1 : World} {S1 : Nat → Prop} {L1 : Key → Option Ck} (h : Mkr w S L u iB M mc bv mv tv gv ev dv er bl I) (s1 : Sep w1 S1 L1) (ro : Ro S w w1) (hS : ∀ b, S b → S1 b) (hk : ∀ q, (∀ k, k ≠ 3 → q ≠ .tmp k) → L1 q = L q) : Mkr w1 S1 L1 u iB M mc bv mv tv gv ev dv er bl I := by
  obtain ⟨raws, r1, r2, r3⟩ := h.bls
  obtain ⟨traws, t1, t2, t3⟩ := h.tabs
  refine ⟨s1, (hk _ (by simp)).trans h.mach, (hk _ (by simp)).trans h.cfg, (hk _ (by simp)).trans h.ins, h.mod.mono ro hS, ⟨raws, (hk _ (by intro k hk; simpa using fun e => hk e.symm)).trans r1, r2, fun k r es a b => ?_⟩, (hk _ (by simp)).trans h.mem,
    ⟨traws, t1, (hk _ (by simp)).trans t2, fun k l v a b => (hk _ (by simp)).trans (t3 k l v a b)⟩, (hk _ (by simp)).trans h.glo, (hk _ (by simp)).trans h.els, (hk _ (by simp)).trans h.das, h.wf⟩
  obtain ⟨bb, e, hb, hm⟩ := r3 k r es a b
  exact ⟨bb, e, hS _ hb, hm.move (ro.2 _ hb)⟩
theorem Mkr.still {w1 : World} (h : Mkr w S L u iB M mc bv mv tv gv ev dv er bl I) (q : Below w.heap.size w w1) : Mkr w1 S L u iB M mc bv mv tv gv ev dv er bl I :=
  h.move (h.sep.still q.size q.block) ⟨⟨q.size, q.os, q.output⟩, fun b hb => q.block b (h.sep.lt b hb)⟩ (fun _ h => h) (fun _ _ => rfl)
theorem Mkr.mc13 (h : Mkr w S L u iB M mc bv mv tv gv ev dv er bl I) : mc.length = 13 := h.mod.len
theorem Mkr.cell (h : Mkr w S L u iB M mc bv mv tv gv ev dv er bl I) (j : Nat) (v : Value) (hv : (mc ++ [bv, mv, tv, gv, ev, dv, .int .i64 er])[j]? = some v) : w.cell? ⟨iB, j, none⟩ = some v := h.sep.cell0 h.ins j v hv
theorem Mkr.tail (h : Mkr w S L u iB M mc bv mv tv gv ev dv er bl I) (j : Nat) : (mc ++ [bv, mv, tv, gv, ev, dv, .int .i64 er])[13 + j]? = [bv, mv, tv, gv, ev, dv, .int .i64 er][j]? := by
  rw [List.getElem?_append_right (by rw [h.mod.len]; omega), h.mod.len]
  congr 1
  omega
/-- A cell behind the module's is another one now. -/
theorem set_tail (hl : mc.length = 13) (r : List Value) (j : Nat) (x : Value) : (mc ++ r).set (13 + j) x = mc ++ r.set j x := by
  rw [List.set_append_right _ _ (by omega), hl]
  congr 2
  omega
/-- One more map of blocks. -/
theorem Mkr.block {w1 : World} {b : Nat} {es : Es} {v1 : Value} {raws : List Value} (h : Mkr w S L u iB M mc bv mv tv gv ev dv er bl I) (hb : S b) (hm : MapF w b es)
    (hraws : L (.tmp 3) = some (.rw 195 1 bv raws)) (hr : Row w1 195 1 v1 (raws ++ [.map (some b)])) (hg : w.grownBy w1 (rowBlock bv)) (ha : rowBlock v1 = rowBlock bv ∨ ∃ k, rowBlock v1 = some k ∧ w.heap.size ≤ k) :
    ∃ L', Mkr (w1.setCell ⟨iB, 13, none⟩ v1) S L' u iB M mc v1 mv tv gv ev dv er (bl ++ [es]) I ∧ Ro S w (w1.setCell ⟨iB, 13, none⟩ v1) ∧ (∀ q, q ≠ .tmp 3 → q ≠ .ins u → L' q = L q) ∧ w1.cell? ⟨iB, 13, none⟩ = some bv ∧ w1.frozen? ⟨iB, 13, none⟩ = false := by
  obtain ⟨s1, r1⟩ := h.sep.grow hraws hr hg ha
  have hI : upd L (.tmp 3) (.rw 195 1 v1 (raws ++ [.map (some b)])) (.ins u) = some (.cl iB 0 (mc ++ [bv, mv, tv, gv, ev, dv, .int .i64 er])) := by rw [upd_other _ _ (by simp)]; exact h.ins
  have s2 := s1.set0 hI 13 (by simp [h.mod.len]) v1
  have r2 := r1.trans' (s1.ro_setCell hI 13 v1)
  have hc := h.cell 13 bv (h.tail 0)
  have cl := h.sep.grown_cell hraws hg h.ins ⟨iB, 13, none⟩ rfl
  rw [set_tail h.mod.len _ 0] at s2
  obtain ⟨raws', q1, q2, q3⟩ := h.bls
  rw [hraws] at q1
  cases q1
  obtain ⟨traws, t1, t2, t3⟩ := h.tabs
  have o : ∀ q : Key, q ≠ .tmp 3 → q ≠ .ins u → upd (upd L (.tmp 3) (.rw 195 1 v1 (raws ++ [.map (some b)]))) (.ins u) (.cl iB 0 (mc ++ [bv, mv, tv, gv, ev, dv, .int .i64 er].set 0 v1)) q = L q := fun q a b => by rw [upd_other _ _ b, upd_other _ _ a]
  refine ⟨_, ⟨s2, (o _ (by simp) (by simp)).trans h.mach, (o _ (by simp) (by simp)).trans h.cfg, upd_same _ _ _, h.mod.mono r2 (fun _ h => h), ⟨raws ++ [.map (some b)], by rw [upd_other _ _ (by simp), upd_same], by simp [q2], fun k r es' a c => ?_⟩, (o _ (by simp) (by simp)).trans h.mem,
    ⟨traws, t1, (o _ (by simp) (by simp)).trans t2, fun k l v a b => (o _ (by simp) (by simp)).trans (t3 k l v a b)⟩, (o _ (by simp) (by simp)).trans h.glo, (o _ (by simp) (by simp)).trans h.els, (o _ (by simp) (by simp)).trans h.das, h.wf⟩, r2, o, cl.1.trans hc, cl.2.trans (h.sep.frozen h.ins 13)⟩
  rcases Nat.lt_or_ge k raws.length with hk | hk
  · rw [List.getElem?_append_left hk] at a
    rw [List.getElem?_append_left (by omega)] at c
    obtain ⟨bb, e, hbb, hmm⟩ := q3 k r es' a c
    exact ⟨bb, e, hbb, hmm.move (r2.2 _ hbb)⟩
  · rw [List.getElem?_append_right hk] at a
    rw [List.getElem?_append_right (by omega)] at c
    rw [q2] at a
    cases hz : k - bl.length with
    | zero =>
      rw [hz] at a c
      cases a
      cases c
      exact ⟨b, rfl, hb, hm.move (r2.2 _ hb)⟩
    | succ n =>
      rw [hz] at a
      cases a
end
end Go.Proofs.YtjbdldekllffkaaGreatDoor
/- inst's maker: blocks. -/
set_option linter.unusedVariables false
set_option linter.unusedSimpArgs false
namespace Go.Proofs.YtjbdldekllffkaaGreatDoor
open Go.RowKit Go.Sep Go.St
variable {w : World} {S : Nat → Prop} {L : Key → Option Ck} {u iB : Nat} {M : Mo} {mc : List Value} {bv mv tv gv ev dv : Value} {er : Int} {bl : List Es} {I : In}
theorem infoMap : (Tryz.prog.info? 195).map (fun i => (i.zero, i.size, i.bytes)) = some (some (.map none), 1, 8) := by kernel_rfl
def BlsR (w : World) (S : Nat → Prop) (L : Key → Option Ck) (u iB : Nat) (M : Mo) (mc : List Value) (mv tv gv ev dv : Value) (er : Int) (bl : List Es) (I : In) (w' : World) : Prop :=
  ∃ bv S' L', Mkr w' S' L' u iB M mc bv mv tv gv ev dv er bl I ∧ Ro S w w' ∧ (∀ b, S b → S' b) ∧ ∀ q, q ≠ .tmp 3 → q ≠ .ins u → L' q = L q
set_option maxRecDepth 100000 in
set_option maxHeartbeats 4000000 in
theorem mblocks_c (h : Mkr w S L u iB M mc bv mv tv gv ev dv 0 [] I) (ess : List Es) (hl : ess.length = M.codes.length) (hl2 : M.codes.length ≤ 1000) (hw : ∀ (k : Nat) c es, M.codes[k]? = some c → ess[k]? = some es → WalkOk c.body es) :
    Calls Tryz.prog 146 #[.pointer (some ⟨iB, 0, none⟩)] w fun e w' => e = .returned (.tuple #[]) ∧ BlsR w S L u iB M mc mv tv gv ev dv 0 ess I w' := by
  obtain ⟨cv, hcv, hcr⟩ := h.mod.codes
  have i11 := h.cell 11 cv (by rw [List.getElem?_append_left (by rw [h.mod.len]; omega)]; exact hcv)
  obtain ⟨A, c, rfl, hc1, hc2, hc3, hc4⟩ := id hcr
  have H := Lib.hid h
  have HW := Lib.hid (And.intro hl (And.intro hl2 hw))
  have HC := Lib.hid hcr
  clear h hl hl2 hw hcv hcr hc1 hc2 hc3 hc4
  go_enter Tryz.func146, Tryz.ntmps146
  go_wp2_with fail
  go_loopw [13] (fun i wr => ∃ n : Nat, n ≤ M.codes.length ∧ i = .int .i64 n ∧ BlsR w S L u iB M mc mv tv gv ev dv 0 (ess.take n) I wr) (fun i _ => M.codes.length - (intOf i).toNat)
  case atStart => exact ⟨0, Nat.zero_le _, rfl, bv, S, L, H.out, Ro.refl _ _, fun _ h => h, fun _ _ _ => rfl⟩
  case round =>
    obtain ⟨n, hn, rfl, bv1, S1, L1, h1, ro1, hS1, hk1⟩ := hrel
    by_cases hlt : n < M.codes.length
    · have hx : M.codes[n]? = some M.codes[n] := List.getElem?_eq_getElem hlt
      have hes : ess[n]? = some (ess[n]'(by rw [HW.out.1]; exact hlt)) := List.getElem?_eq_getElem _
      have hok := HW.out.2.2 n _ _ hx hes
      generalize ess[n]'(by rw [HW.out.1]; exact hlt) = es at hes hok
      generalize M.codes[n] = cd at hx hok
      have hcr1 := HC.out.mono ro1 hS1 (fun _ _ h => h.mono ro1 hS1)
      obtain ⟨g, o, cs, rfl, hSg, _, ⟨lv, bv9, rfl, hlv, hbv⟩, hcs⟩ := hcr1.get n cd hx
      obtain ⟨lA, lc, rfl, _, _, _, _⟩ := id hlv
      obtain ⟨bA, bc, rfl, _, _, _, _⟩ := id hbv
      have k0 := hcs 0 _ rfl
      have k1 := hcs 1 _ rfl
      rw [Nat.add_zero] at k0
      have hbody := (h1.wf.body cd (List.mem_of_getElem? hx)).1
      have hi : IntKind.i64.wrap ((n : Int) + 1) = (n : Int) + 1 := IntWalk.i64_in _ (by have := HW.out.2.1; omega)
      have i1 : decide ((n : Int) < (M.codes.length : Int)) = true := decide_eq_true (by omega)
      have q1 : Below wr.heap.size wr (wr.alloc (.cells #[.slice lA cd.ls.length lc, .slice bA cd.body.length bc] 67)) := (Below.refl _ _).alloc (Nat.le_refl _) _
      have HB := Lib.hid (blocks_c cd.body es (wr.alloc (.cells #[.slice lA cd.ls.length lc, .slice bA cd.body.length bc] 67)) (.slice bA cd.body.length bc) (hbv.mono (S := S1) (S' := fun b => b < (wr.alloc (.cells #[.slice lA cd.ls.length lc, .slice bA cd.body.length bc] 67)).heap.size) ⟨⟨q1.size, q1.os, q1.output⟩, fun b hb => q1.block b (h1.sep.lt b hb)⟩ (fun b hb => Nat.lt_of_lt_of_le (h1.sep.lt b hb) q1.size) (fun _ _ hh => hh.mono ⟨⟨q1.size, q1.os, q1.output⟩, fun b hb => q1.block b (h1.sep.lt b hb)⟩ (fun b hb => Nat.lt_of_lt_of_le (h1.sep.lt b hb) q1.size))) hbody hok)
      have H1 := Lib.hid (And.intro h1 (And.intro ro1 (And.intro hS1 hk1)))
      have HE := Lib.hid (And.intro hes q1)
      clear h1 ro1 hS1 hk1 hcr1 hSg hlv hbv hcs hbody hok hes hx q1 hn
      rename_i y1 y2 y3 y4 y5 y6 y7 y8 y9
      clear y1 y2 y3 y4 y5 y6 y7 y8 y9
      go_wp2_with fail
      refine HB.out.mono ?_
      rintro e w2 ⟨mr, rfl, hb2, hmr, hmf⟩
      have bel2 : Below wr.heap.size wr w2 := below_then HE.out.2 hb2
      have h2 := H1.out.1.still bel2
      have h3 : Mkr w2 (fun b => S1 b ∨ b = mr) L1 u iB M mc bv1 mv tv gv ev dv 0 (ess.take n) I := h2.move (h2.sep.more (fun k c b e1 e2 hb => by
        rcases hb with hb | rfl
        · exact h2.sep.ro k c b e1 e2 hb
        · have h9 := Ck.lt (H1.out.1.sep.holds k c e1) e2
          have := HE.out.2.size
          omega) (fun b hb => by
        rcases hb with hb | rfl
        · exact h2.sep.lt b hb
        · exact hmf.lt)) (Ro.refl _ _) (fun b hb => .inl hb) (fun _ _ => rfl)
      obtain ⟨raws, hraws, _, _⟩ := h3.bls
      have i13 : w2.cell? ⟨iB, 13, none⟩ = some bv1 := h3.cell 13 bv1 (h3.tail 0)
      have hrow := h3.sep.holds _ _ hraws
      obtain ⟨A1, m1, k1', rfl, _, _, hxl, _⟩ := Row.rd hrow
      have RD := Lib.hid (show Rd (w2.alloc (.cells #[.map (some mr)] 195)) 1 (some ⟨w2.heap.size, 0, none⟩) 1 [.map (some mr)] from ⟨rfl, fun _ => ⟨_, rfl, rfl, fun j u hu => by
        cases j with
        | zero => simp at hu; subst hu; simp [Addr.add]
        | succ j => simp at hu⟩⟩)
      have H4 := Lib.hid (h3.still ((Below.refl _ _).alloc (Nat.le_refl _) (.cells #[.map (some mr)] 195)))
      have HR := Lib.hid hraws
      have HX := Lib.hid (And.intro bel2 hmf)
      have HBY := Lib.hid (show (raws.length + 1) * 8 ≤ 140737488355328 from by
        obtain ⟨raws', a1, a2, _⟩ := h3.bls
        rw [hraws] at a1
        cases a1
        rw [a2, List.length_take]
        have := HW.out.2.1
        omega)
      have HO1 := Lib.hid (show ∀ u ∈ [Value.map (some mr)], u.oneCell' = true by simp [Value.oneCell'])
      clear h2 h3 hrow hraws hb2 hmr hmf bel2 hxl HB
      rename_i z1 z2 z3 z4 z5
      clear z1 z2 z3 z4 z5
      go_wp2_with (at_builtin; refine wpList_append_row (by rfl) _ _ _ (by rfl) 195 1 (.map none) 8 Tryz.underlying40 infoMap rfl (by omega) (by omega) (.slice A1 m1 k1') raws (by rfl) (some ⟨w2.heap.size, 0, none⟩) 1 1 [.map (some mr)] (by rfl) (H4.out.sep.holds _ _ HR.out) RD.out HO1.out HBY.out ?_; intro B1 m2 c3 w3 hr1 hg1 ha1; obtain ⟨L5, h5, ro5, hk5, c13, z13⟩ := H4.out.block (b := mr) (es := es) (.inr rfl) (HX.out.2.move (heap_alloc_old _ _ HX.out.2.lt)) HR.out hr1.out hg1.out ha1.out; have H5 := Lib.hid (And.intro h5 (And.intro ro5 hk5)); clear h5 ro5 hk5 hr1 hg1 ha1)
      go_roundw
      case rel =>
        refine ⟨n + 1, hlt, by go_num, .slice B1 m2 c3, (fun b => S1 b ∨ b = mr), L5, ?_, ?_, fun b hb => Or.inl (H1.out.2.2.1 b hb), fun q a b => (H5.out.2.2 q a b).trans (H1.out.2.2.2 q a b)⟩
        · have := H5.out.1
          rw [List.take_add_one, HE.out.1]
          exact this
        · have b2 := HX.out.1
          have r1 : Ro S1 wr w2 := ⟨⟨b2.size, b2.os, b2.output⟩, fun b hb => b2.block b (H1.out.1.sep.lt b hb)⟩
          have r2 : Ro S1 w2 (w2.alloc (.cells #[.map (some mr)] 195)) := ⟨⟨by simp, rfl, rfl⟩, fun b hb => heap_alloc_old w2 _ (Nat.lt_of_lt_of_le (H1.out.1.sep.lt b hb) b2.size)⟩
          have r3 : Ro S1 (w2.alloc (.cells #[.map (some mr)] 195)) (w3.setCell ⟨iB, 13, none⟩ (.slice B1 m2 c3)) := ⟨H5.out.2.1.1, fun b hb => H5.out.2.1.2 b (.inl hb)⟩
          exact H1.out.2.1.trans ((r1.trans' r2).trans' r3) H1.out.2.2.1
      case measure => (simp [intOf]; try omega)
    · obtain rfl : n = M.codes.length := by omega
      have hd0 : decide ((M.codes.length : Int) < (M.codes.length : Int)) = false := decide_eq_false (by omega)
      have H1 := Lib.hid (And.intro h1 (And.intro ro1 (And.intro hS1 hk1)))
      clear h1 ro1 hS1 hk1 hlt hn
      go_wp2
      go_end0
      exact ⟨rfl, bv1, S1, L1, by have := H1.out.1; rwa [← HW.out.1, List.take_length] at this, H1.out.2.1, H1.out.2.2.1, H1.out.2.2.2⟩
end Go.Proofs.YtjbdldekllffkaaGreatDoor
/- inst's maker: what makes rooms. -/
set_option linter.unusedVariables false
set_option linter.unusedSimpArgs false
namespace Go.Proofs.YtjbdldekllffkaaGreatDoor
open Go.RowKit Go.Sep Go.St
variable {w : World} {S : Nat → Prop} {L : Key → Option Ck} {u iB : Nat} {M : Mo} {mc : List Value} {bv mv tv gv ev dv : Value} {er : Int} {bl : List Es} {I : In}
theorem infoU8 : (Tryz.prog.info? 5).map (fun i => (i.zero, i.size, i.bytes)) = some (some (.int .u8 0), 1, 1) := by kernel_rfl
theorem infoBool : (Tryz.prog.info? 4).map (fun i => (i.zero, i.size, i.bytes)) = some (some (.bool false), 1, 1) := by kernel_rfl
theorem infoRow : (Tryz.prog.info? 23).map (fun i => (i.zero, i.size, i.bytes)) = some (some (.slice none 0 0), 1, 24) := by kernel_rfl
def memC (M : Mo) : List Int := match M.mems with
  | [] => []
  | l :: _ => List.replicate (l.min.toNat * 65536) 0
def tabsC (l : List Lim) : List (List Int) := l.map fun t => List.replicate t.min.toNat 0
theorem ints_rep (k : IntKind) (n : Nat) : ints k (List.replicate n 0) = List.replicate n (.int k 0) := by simp [ints]
theorem bools_rep (n : Nat) : bools (List.replicate n false) = List.replicate n (.bool false) := by simp [bools]
/-- Memory is a row of noughts now. -/
theorem Mkr.mem0 (h : Mkr w S L u iB M mc bv mv tv gv ev dv er bl I) (n : Nat) (hn : n ≤ 1000000) :
    ∃ L', Mkr ((w.alloc (.cells (Array.replicate n (.int .u8 0)) 5)).setCell ⟨iB, 14, none⟩ (.slice (some ⟨w.heap.size, 0, none⟩) n n)) S L' u iB M mc bv (.slice (some ⟨w.heap.size, 0, none⟩) n n) tv gv ev dv er bl { I with mem := List.replicate n 0 } ∧
      Ro S w ((w.alloc (.cells (Array.replicate n (.int .u8 0)) 5)).setCell ⟨iB, 14, none⟩ (.slice (some ⟨w.heap.size, 0, none⟩) n n)) ∧ ∀ q, q ≠ .mem u → q ≠ .ins u → L' q = L q := by
  have s1 := h.sep.newRow (.mem u) (Array.replicate n (.int .u8 0)) 5 1 n (by simp) (by simp [maxLen]; omega)
  have r1 : Ro S w (w.alloc (.cells (Array.replicate n (.int .u8 0)) 5)) := ⟨⟨by simp, rfl, rfl⟩, fun b hb => heap_alloc_old w _ (h.sep.lt b hb)⟩
  rw [Array.toList_replicate, ← ints_rep] at s1
  have hI : upd L (.mem u) (.rw 5 1 (.slice (some ⟨w.heap.size, 0, none⟩) n n) (ints .u8 (List.replicate n 0))) (.ins u) = some (.cl iB 0 (mc ++ [bv, mv, tv, gv, ev, dv, .int .i64 er])) := by rw [upd_other _ _ (by simp)]; exact h.ins
  have s2 := s1.set0 hI 14 (by simp [h.mod.len]) (.slice (some ⟨w.heap.size, 0, none⟩) n n)
  have r2 := r1.trans' (s1.ro_setCell hI 14 (.slice (some ⟨w.heap.size, 0, none⟩) n n))
  rw [set_tail h.mod.len _ 1] at s2
  obtain ⟨raws, q1, q2, q3⟩ := h.bls
  obtain ⟨traws, t1, t2, t3⟩ := h.tabs
  have o : ∀ q : Key, q ≠ .mem u → q ≠ .ins u → upd (upd L (.mem u) (.rw 5 1 (.slice (some ⟨w.heap.size, 0, none⟩) n n) (ints .u8 (List.replicate n 0)))) (.ins u) (.cl iB 0 (mc ++ [bv, mv, tv, gv, ev, dv, .int .i64 er].set 1 (.slice (some ⟨w.heap.size, 0, none⟩) n n))) q = L q := fun q a b => by rw [upd_other _ _ b, upd_other _ _ a]
  refine ⟨_, ⟨s2, (o _ (by simp) (by simp)).trans h.mach, (o _ (by simp) (by simp)).trans h.cfg, upd_same _ _ _, h.mod.mono r2 (fun _ h => h), ⟨raws, (o _ (by simp) (by simp)).trans q1, q2, fun k r es a c => ?_⟩, by rw [upd_other _ _ (by simp), upd_same],
    ⟨traws, t1, (o _ (by simp) (by simp)).trans t2, fun k l v a b => (o _ (by simp) (by simp)).trans (t3 k l v a b)⟩, (o _ (by simp) (by simp)).trans h.glo, (o _ (by simp) (by simp)).trans h.els, (o _ (by simp) (by simp)).trans h.das, h.wf⟩, r2, o⟩
  obtain ⟨bb, e, hbb, hmm⟩ := q3 k r es a c
  exact ⟨bb, e, hbb, hmm.move (r2.2 _ hbb)⟩
/-- One more table: its row is made already. -/
theorem Mkr.table {w1 : World} {v1 vt : Value} {traws : List Value} {t : List Int} (h : Mkr w S L u iB M mc bv mv tv gv ev dv er bl I)
    (s0 : Sep w S (upd L (.tab u I.tabs.length) (.rw 58 1 vt (ints .u64 t)))) (t1 : traws.length = I.tabs.length) (t2 : L (.tbs u) = some (.rw 23 1 tv traws)) (t3 : ∀ (k : Nat) l v, I.tabs[k]? = some l → traws[k]? = some v → L (.tab u k) = some (.rw 58 1 v (ints .u64 l)))
    (hr : Row w1 23 1 v1 (traws ++ [vt])) (hg : w.grownBy w1 (rowBlock tv)) (ha : rowBlock v1 = rowBlock tv ∨ ∃ k, rowBlock v1 = some k ∧ w.heap.size ≤ k) :
    ∃ L', Mkr (w1.setCell ⟨iB, 15, none⟩ v1) S L' u iB M mc bv mv v1 gv ev dv er bl { I with tabs := I.tabs ++ [t] } ∧ Ro S w (w1.setCell ⟨iB, 15, none⟩ v1) ∧ (∀ q, (∀ k, q ≠ .tab u k) → q ≠ .tbs u → q ≠ .ins u → L' q = L q) ∧ w1.cell? ⟨iB, 15, none⟩ = some tv ∧ w1.frozen? ⟨iB, 15, none⟩ = false := by
  have hT : upd L (.tab u I.tabs.length) (.rw 58 1 vt (ints .u64 t)) (.tbs u) = some (.rw 23 1 tv traws) := by rw [upd_other _ _ (by simp)]; exact t2
  obtain ⟨s1, r1⟩ := s0.grow hT hr hg ha
  have hI0 : upd L (.tab u I.tabs.length) (.rw 58 1 vt (ints .u64 t)) (.ins u) = some (.cl iB 0 (mc ++ [bv, mv, tv, gv, ev, dv, .int .i64 er])) := by rw [upd_other _ _ (by simp)]; exact h.ins
  have hI : upd (upd L (.tab u I.tabs.length) (.rw 58 1 vt (ints .u64 t))) (.tbs u) (.rw 23 1 v1 (traws ++ [vt])) (.ins u) = some (.cl iB 0 (mc ++ [bv, mv, tv, gv, ev, dv, .int .i64 er])) := by rw [upd_other _ _ (by simp)]; exact hI0
  have s2 := s1.set0 hI 15 (by simp [h.mod.len]) v1
  have r2 := r1.trans' (s1.ro_setCell hI 15 v1)
  have hc := h.cell 15 tv (h.tail 2)
  have cl := s0.grown_cell hT hg hI0 ⟨iB, 15, none⟩ rfl
  rw [set_tail h.mod.len _ 2] at s2
  obtain ⟨raws, q1, q2, q3⟩ := h.bls
  have o : ∀ q : Key, (∀ k, q ≠ .tab u k) → q ≠ .tbs u → q ≠ .ins u → upd (upd (upd L (.tab u I.tabs.length) (.rw 58 1 vt (ints .u64 t))) (.tbs u) (.rw 23 1 v1 (traws ++ [vt]))) (.ins u) (.cl iB 0 (mc ++ [bv, mv, tv, gv, ev, dv, .int .i64 er].set 2 v1)) q = L q := fun q a b c => by rw [upd_other _ _ c, upd_other _ _ b, upd_other _ _ (a _)]
  refine ⟨_, ⟨s2, (o _ (by simp) (by simp) (by simp)).trans h.mach, (o _ (by simp) (by simp) (by simp)).trans h.cfg, upd_same _ _ _, h.mod.mono r2 (fun _ h => h), ⟨raws, (o _ (by simp) (by simp) (by simp)).trans q1, q2, fun k r es a c => ?_⟩, (o _ (by simp) (by simp) (by simp)).trans h.mem,
    ⟨traws ++ [vt], by simp [t1], by rw [upd_other _ _ (by simp), upd_same], fun k l v a b => ?_⟩, (o _ (by simp) (by simp) (by simp)).trans h.glo, (o _ (by simp) (by simp) (by simp)).trans h.els, (o _ (by simp) (by simp) (by simp)).trans h.das, h.wf⟩, r2, o, cl.1.trans hc, cl.2.trans (s0.frozen hI0 15)⟩
  · obtain ⟨bb, e, hbb, hmm⟩ := q3 k r es a c
    exact ⟨bb, e, hbb, hmm.move (r2.2 _ hbb)⟩
  · rw [upd_other _ _ (by simp), upd_other _ _ (by simp)]
    by_cases hk : k = I.tabs.length
    · subst hk
      rw [upd_same]
      rw [List.getElem?_append_right (Nat.le_refl _), Nat.sub_self] at a
      rw [List.getElem?_append_right (by omega), t1, Nat.sub_self] at b
      cases a
      cases b
      rfl
    · rw [upd_other _ _ (by simpa using hk)]
      have hlt : k < I.tabs.length := by
        have := (List.getElem?_eq_some_iff.1 a).1
        simp at this
        omega
      rw [List.getElem?_append_left hlt] at a
      rw [List.getElem?_append_left (by omega)] at b
      exact t3 k l v a b
end Go.Proofs.YtjbdldekllffkaaGreatDoor
/- inst's maker: room. -/
set_option linter.unusedVariables false
set_option linter.unusedSimpArgs false
namespace Go.Proofs.YtjbdldekllffkaaGreatDoor
open Go.RowKit Go.Sep Go.St
variable {w : World} {S : Nat → Prop} {L : Key → Option Ck} {u iB : Nat} {M : Mo} {mc : List Value} {bv mv tv gv ev dv : Value} {er : Int} {bl : List Es} {I : In}
def RoomR (w : World) (S : Nat → Prop) (L : Key → Option Ck) (u iB : Nat) (M : Mo) (mc : List Value) (bv gv ev dv : Value) (er : Int) (bl : List Es) (I : In) (w' : World) : Prop :=
  ∃ mv tv L', Mkr w' S L' u iB M mc bv mv tv gv ev dv er bl I ∧ Ro S w w' ∧ ∀ q, (∀ k, q ≠ .tab u k) → q ≠ .tbs u → q ≠ .mem u → q ≠ .ins u → L' q = L q
theorem in_eq {I : In} {l : List Lim} (h1 : I.mem = []) (h2 : I.tabs = []) : ({ I with mem := [], tabs := tabsC (l.take 0) } : In) = I := by
  obtain ⟨a, b, c, d, f, g⟩ := I
  cases h1
  cases h2
  rfl
theorem in_eq2 {I : In} {l : List Lim} (m : List Int) (h2 : I.tabs = []) : ({ I with mem := m, tabs := tabsC (l.take 0) } : In) = { I with mem := m } := by
  obtain ⟨a, b, c, d, f, g⟩ := I
  cases h2
  rfl
theorem cell_new (w : World) (x : Value) (t : TypeId) : (w.alloc (.cells #[x] t)).cell? ⟨w.heap.size, 0, none⟩ = some x := by simp
set_option maxRecDepth 100000 in
set_option maxHeartbeats 4000000 in
theorem room_c (h : Mkr w S L u iB M mc bv mv tv gv ev dv 0 bl I) (hI : I.mem = [] ∧ I.tabs = []) (hm : M.mems.length ≤ 1 ∧ ∀ x ∈ M.mems, x.min ≤ 1) (ht : M.tabs.length ≤ 1000 ∧ ∀ x ∈ M.tabs, x.min ≤ 64) :
    Calls Tryz.prog 145 #[.pointer (some ⟨iB, 0, none⟩)] w fun e w' => e = .returned (.tuple #[]) ∧ RoomR w S L u iB M mc bv gv ev dv 0 bl { I with mem := memC M, tabs := tabsC M.tabs } w' := by
  obtain ⟨mlv, hmlv, hmr⟩ := h.mod.mems
  obtain ⟨tlv, htlv, htr⟩ := h.mod.tabs
  have i3 := h.cell 3 mlv (by rw [List.getElem?_append_left (by rw [h.mod.len]; omega)]; exact hmlv)
  have i2 := h.cell 2 tlv (by rw [List.getElem?_append_left (by rw [h.mod.len]; omega)]; exact htlv)
  have i14 := h.cell 14 mv (h.tail 1)
  have z := h.sep.frozen h.ins
  have z14 := z 14
  obtain ⟨mA, mk, rfl, hk1, hk2, hk3, hk4⟩ := id hmr
  obtain ⟨tA, tk, rfl, ht1, ht2, ht3, ht4⟩ := id htr
  have HT := Lib.hid (And.intro htr (And.intro ht h.wf))
  have hwf := h.wf.lims
  have H := Lib.hid h
  have HI := Lib.hid hI
  clear hI hk1 hk2 hk4 ht1 ht2 ht3 ht4 z h htr ht hmlv htlv
  rcases hmm : M.mems with _ | ⟨l0, r0⟩
  · rw [hmm] at i3 hmr
    have HMC := Lib.hid (show memC M = [] by unfold memC; rw [hmm])
    clear hmr hk3 hwf hm hmm
    go_enter Tryz.func145, Tryz.ntmps145
    go_wp2_with fail
    have H2 := Lib.hid (show RoomR w S L u iB M mc bv gv ev dv 0 bl { I with mem := memC M, tabs := tabsC (M.tabs.take 0) } w from ⟨mv, tv, L, by rw [HMC.out, in_eq HI.out.1 HI.out.2]; exact H.out, Ro.refl _ _, fun _ _ _ _ _ => rfl⟩)
    go_loopw [45] (fun i wr => ∃ n : Nat, n ≤ M.tabs.length ∧ i = .int .i64 n ∧ RoomR w S L u iB M mc bv gv ev dv 0 bl { I with mem := memC M, tabs := tabsC (M.tabs.take n) } wr) (fun i _ => M.tabs.length - (intOf i).toNat)
    case atStart => exact ⟨0, Nat.zero_le _, rfl, by first | exact H2.out | (rw [← World.setCell_alloc_past _ _ _ _ hib]; exact H2.out)⟩
    case round =>
      obtain ⟨n, hn, rfl, mv1, tv1, L1, h1, ro1, hk1⟩ := hrel
      by_cases hlt : n < M.tabs.length
      · have hx : M.tabs[n]? = some M.tabs[n] := List.getElem?_eq_getElem hlt
        generalize M.tabs[n] = x at hx
        have htr1 := HT.out.1.mono ro1 (fun _ h => h) (fun _ _ h => h)
        obtain ⟨g, o, cs, rfl, hSg, _, ⟨ty, rfl⟩, hcs⟩ := htr1.get n x hx
        have k0 := hcs 0 _ rfl
        have k1 := hcs 1 _ rfl
        have k2 := hcs 2 _ rfl
        have k3 := hcs 3 _ rfl
        rw [Nat.add_zero] at k0
        have hmx := HT.out.2.1.2 x (List.mem_of_getElem? hx)
        have hwx := HT.out.2.2.lims x (List.mem_append_right _ (List.mem_of_getElem? hx))
        obtain ⟨q, hq⟩ : ∃ q : Nat, x.min = q := ⟨x.min.toNat, by omega⟩
        rw [hq] at k1
        have hq1 : q ≤ 64 := by omega
        have e1 : decide ((64 : Int) < (q : Int)) = false := decide_eq_false (by omega)
        have e2 : decide ((q : Int) > 64) = false := decide_eq_false (by omega)
        have e3 : decide (64 < q) = false := decide_eq_false (by omega)
        have hi : IntKind.i64.wrap ((n : Int) + 1) = (n : Int) + 1 := IntWalk.i64_in _ (by have := HT.out.2.1.1; omega)
        have i1 : decide ((n : Int) < (M.tabs.length : Int)) = true := decide_eq_true (by omega)
        have bel2 : Below wr.heap.size wr (wr.alloc (.cells #[.int .u8 ty, .int .u32 q, .int .u32 x.max, .bool x.has] 101)) := (Below.refl _ _).alloc (Nat.le_refl _) _
        have h2 := h1.still bel2
        have hTX := Lib.hid (show tabsC (M.tabs.take (n + 1)) = tabsC (M.tabs.take n) ++ [List.replicate q 0] by rw [List.take_add_one, hx]; simp [tabsC, hq])
        have hTL : (tabsC (M.tabs.take n)).length = n := by simp [tabsC]; omega
        obtain ⟨traws, t1, t2, t3⟩ := h2.tabs
        rw [hTL] at t1
        have hrow := h2.sep.holds _ _ t2
        obtain ⟨A1, m1, k1', rfl, _, _, hxl, _⟩ := Row.rd hrow
        have i15 : (wr.alloc (.cells #[.int .u8 ty, .int .u32 q, .int .u32 x.max, .bool x.has] 101)).cell? ⟨iB, 15, none⟩ = some (.slice A1 m1 k1') := h2.cell 15 _ (h2.tail 2)
        have tB1 : (wr.alloc (.cells #[.int .u8 ty, .int .u32 q, .int .u32 x.max, .bool x.has] 101)).cell? ⟨wr.heap.size, 1, none⟩ = some (.int .u32 q) := by simp
        have hrb : rowBlock (.slice A1 m1 k1') ≠ some wr.heap.size := by
          intro hh
          obtain ⟨traws0, _, b2, _⟩ := h1.tabs
          have := Ck.lt (h1.sep.holds _ _ b2) hh
          omega
        have HX := Lib.hid (And.intro h1 (And.intro ro1 (And.intro hk1 hrb)))
        clear h1 ro1 hk1 htr1 hSg hcs hmx hwx hn hx hrow hxl hrb
        generalize hwb : wr.alloc (.cells #[.int .u8 ty, .int .u32 q, .int .u32 x.max, .bool x.has] 101) = w2 at h2 i15 tB1 bel2
        have i15 := i15
        have HB2 := Lib.hid bel2
        have KEY := Lib.hid (show ∀ w', Below w2.heap.size w2 w' → w'.cell? ⟨iB, 15, none⟩ = some (.slice A1 m1 k1') ∧ w'.cell? ⟨wr.heap.size, 1, none⟩ = some (.int .u32 q) from fun w' hb => ⟨(hb.cell (World.block_lt_of_cell? _ _ i15)).trans i15, (hb.cell (World.block_lt_of_cell? _ _ tB1)).trans tB1⟩)
        have mk2 := run_mk w2.drew 23 58 (.int .u64 0) 8 Tryz.underlying23 infoU64 rfl (by omega) q (by omega) .u32 .u32
        have b3 : Below w2.heap.size w2 (w2.drew.alloc (.cells (Array.replicate q (.int .u64 0)) 58)) := (Below.refl _ _).drew.alloc (Nat.le_refl _) _
        have b4 : Below w2.heap.size w2 ((w2.drew.alloc (.cells (Array.replicate q (.int .u64 0)) 58)).alloc (.cells #[.slice (some ⟨w2.heap.size, 0, none⟩) q q] 23)) := b3.alloc (by simp) _
        have h4 := h2.still b4
        have s3 := (h2.sep.drew).newRow (.tab u n) (Array.replicate q (.int .u64 0)) 58 1 q (by simp) (by simp [maxLen]; omega)
        rw [Array.toList_replicate, ← ints_rep] at s3
        have s4 := s3.alloc (.cells #[.slice (some ⟨w2.heap.size, 0, none⟩) q q] 23)
        have hrow4 := h4.sep.holds _ _ t2
        have RD := Lib.hid (show Rd ((w2.drew.alloc (.cells (Array.replicate q (.int .u64 0)) 58)).alloc (.cells #[.slice (some ⟨w2.heap.size, 0, none⟩) q q] 23)) 1 (some ⟨w2.heap.size + 1, 0, none⟩) 1 [.slice (some ⟨w2.heap.size, 0, none⟩) q q] from ⟨rfl, fun _ => ⟨_, rfl, rfl, fun j u hu => by
          cases j with
          | zero => simp at hu; subst hu; rw [show (Addr.mk (w2.heap.size + 1) 0 none).add 0 = ⟨w2.heap.size + 1, 0, none⟩ by simp [Addr.add], show w2.heap.size + 1 = (w2.drew.alloc (.cells (Array.replicate q (.int .u64 0)) 58)).heap.size by simp]; exact cell_new _ _ _
          | succ j => simp at hu⟩⟩)
        have HBY := Lib.hid (show (traws.length + 1) * 24 ≤ 140737488355328 from by have := HT.out.2.1.1; omega)
        have HO1 := Lib.hid (show ∀ z ∈ [Value.slice (some ⟨w2.heap.size, 0, none⟩) q q], z.oneCell' = true by simp [Value.oneCell'])
        have H4 := Lib.hid (And.intro h4 (And.intro (show Sep _ S (upd L1 (.tab u (tabsC (M.tabs.take n)).length) _) by rw [hTL]; exact s4) (And.intro (show traws.length = (tabsC (M.tabs.take n)).length by rw [hTL]; exact t1) (And.intro t2 (And.intro t3 b4)))))
        have HR4 := Lib.hid hrow4
        clear h2 b3 b4 h4 s3 s4 hrow4 t1 t2 t3 hTL bel2 i2
        rename_i y1 y2
        clear y1 y2
        go_wp2_with fail
        refine wp_region_z (fun w' => w'.cell? ⟨iB, 15, none⟩ = some (.slice A1 m1 k1') ∧ w'.cell? ⟨wr.heap.size, 1, none⟩ = some (.int .u32 q)) (fun j => j == 12 || j == 13 || j == 14 || j == 15) (by kernel_rfl) ?_ (fun hHeld => ?_)
        · first | exact KEY.out _ (Below.refl _ _).drew | exact KEY.out _ ((Below.refl _ _).drew.alloc (Nat.le_refl _) _) | exact KEY.out _ (((Below.refl _ _).drew.alloc (Nat.le_refl _) _).alloc (by simp) _) | exact ⟨c15, ct⟩
        (refine wpZ_take (i := 0) (oi := ⟨some 56, .move (.tmp 0), 215, _, _, none⟩) (v := ?_) rfl (by kernel_rfl) (fun _ _ _ h => h) (by assumption) (Or.inl ⟨by rfl, ?_⟩) ?_; rotate_left 1; · ((intro w hSw; (try dsimp only at hSw); go_split_ands; go_simp) <;> (try with_reducible rfl)))
        try simp only [Act.put, List.setIfInBounds_toArray, List.set_cons_zero, List.set_cons_succ]
        (refine wpZ_take (i := 1) (oi := ⟨some 57, .move (.tmp 0), 215, _, _, none⟩) (v := ?_) rfl (by kernel_rfl) (fun _ _ _ h => h) (by assumption) (Or.inl ⟨by rfl, ?_⟩) ?_; rotate_left 1; · ((intro w hSw; (try dsimp only at hSw); go_split_ands; go_simp) <;> (try with_reducible rfl)))
        try simp only [Act.put, List.setIfInBounds_toArray, List.set_cons_zero, List.set_cons_succ]
        (refine wpZ_take (i := 2) (oi := ⟨some 58, .nilCheck (.tmp 57), 0, _, _, none⟩) (v := ?_) rfl (by kernel_rfl) (fun _ _ _ h => h) (by assumption) (Or.inl ⟨by rfl, ?_⟩) ?_; rotate_left 1; · ((intro w hSw; (try dsimp only at hSw); go_split_ands; go_simp) <;> (try with_reducible rfl)))
        try simp only [Act.put, List.setIfInBounds_toArray, List.set_cons_zero, List.set_cons_succ]
        (refine wpZ_take (i := 3) (oi := ⟨some 59, .fieldAddr 217 (.tmp 58) 0, 0, _, _, none⟩) (v := ?_) rfl (by kernel_rfl) (fun _ _ _ h => h) (by assumption) (Or.inl ⟨by rfl, ?_⟩) ?_; rotate_left 1; · ((intro w hSw; (try dsimp only at hSw); go_split_ands; go_simp) <;> (try with_reducible rfl)))
        try simp only [Act.put, List.setIfInBounds_toArray, List.set_cons_zero, List.set_cons_succ]
        (refine wpZ_take (i := 4) (oi := ⟨some 60, .fieldAddr 44 (.tmp 59) 3, 0, _, _, none⟩) (v := ?_) rfl (by kernel_rfl) (fun _ _ _ h => h) (by assumption) (Or.inl ⟨by rfl, ?_⟩) ?_; rotate_left 1; · ((intro w hSw; (try dsimp only at hSw); go_split_ands; go_simp) <;> (try with_reducible rfl)))
        try simp only [Act.put, List.setIfInBounds_toArray, List.set_cons_zero, List.set_cons_succ]
        (refine wpZ_take (i := 5) (oi := ⟨some 61, .load 41 (.tmp 60), 41, _, _, none⟩) (v := ?_) rfl (by kernel_rfl) (fun _ _ _ h => h) (by assumption) (Or.inl ⟨by rfl, ?_⟩) ?_; rotate_left 1; · ((intro w hSw; (try dsimp only at hSw); go_split_ands; go_simp) <;> (try with_reducible rfl)))
        try simp only [Act.put, List.setIfInBounds_toArray, List.set_cons_zero, List.set_cons_succ]
        (refine wpZ_take (i := 6) (oi := ⟨some 62, .fieldAddr 101 (.tmp 4) 1, 0, _, _, none⟩) (v := ?_) rfl (by kernel_rfl) (fun _ _ _ h => h) (by assumption) (Or.inl ⟨by rfl, ?_⟩) ?_; rotate_left 1; · ((intro w hSw; (try dsimp only at hSw); go_split_ands; go_simp) <;> (try with_reducible rfl)))
        try simp only [Act.put, List.setIfInBounds_toArray, List.set_cons_zero, List.set_cons_succ]
        (refine wpZ_take (i := 7) (oi := ⟨some 63, .fieldAddr 69 (.tmp 62) 0, 0, _, _, none⟩) (v := ?_) rfl (by kernel_rfl) (fun _ _ _ h => h) (by assumption) (Or.inl ⟨by rfl, ?_⟩) ?_; rotate_left 1; · ((intro w hSw; (try dsimp only at hSw); go_split_ands; go_simp) <;> (try with_reducible rfl)))
        try simp only [Act.put, List.setIfInBounds_toArray, List.set_cons_zero, List.set_cons_succ]
        (refine wpZ_take (i := 8) (oi := ⟨some 64, .load 28 (.tmp 63), 28, _, _, none⟩) (v := ?_) rfl (by kernel_rfl) (fun _ _ _ h => h) (by assumption) (Or.inl ⟨by rfl, ?_⟩) ?_; rotate_left 1; · ((intro w hSw; (try dsimp only at hSw); go_split_ands; go_simp) <;> (try with_reducible rfl)))
        try simp only [Act.put, List.setIfInBounds_toArray, List.set_cons_zero, List.set_cons_succ]
        refine wpZ_one (i := 9) (oi := ⟨some 65, .makeSlice 23 (.tmp 64) (.tmp 64), 23, _, _, none⟩) rfl (by kernel_rfl) (fun K hK => ?_)
        go_simp
        refine hK.out _ _ (fun _ => by (first | exact KEY.out _ (Below.refl _ _).drew | exact KEY.out _ ((Below.refl _ _).drew.alloc (Nat.le_refl _) _) | exact KEY.out _ (((Below.refl _ _).drew.alloc (Nat.le_refl _) _).alloc (by simp) _) | exact ⟨c15, ct⟩)) (fun hh => ?_)
        have hHeld := hh rfl
        clear hK K
        try simp only [Act.put, List.setIfInBounds_toArray, List.set_cons_zero, List.set_cons_succ]
        refine wpZ_one (i := 10) (oi := ⟨some 66, .buildSlice 41 1 #[(0, .tmp 65)], 41, _, _, none⟩) rfl (by kernel_rfl) (fun K hK => ?_)
        go_simp
        refine hK.out _ _ (fun _ => by (first | exact KEY.out _ (Below.refl _ _).drew | exact KEY.out _ ((Below.refl _ _).drew.alloc (Nat.le_refl _) _) | exact KEY.out _ (((Below.refl _ _).drew.alloc (Nat.le_refl _) _).alloc (by simp) _) | exact ⟨c15, ct⟩)) (fun hh => ?_)
        have hHeld := hh rfl
        clear hK K
        try simp only [Act.put, List.setIfInBounds_toArray, List.set_cons_zero, List.set_cons_succ]
        refine wpZ_one (i := 11) (oi := ⟨some 67, .call { callee := .builtin .append, args := #[.tmp 61, .tmp 66], argTypes := #[41, 41] }, 41, _, _, none⟩) rfl (by kernel_rfl) (fun K hK => ?_)
        refine step_append_row (by rfl) _ _ _ (by rfl) 23 1 _ 24 Tryz.underlying41 infoRow rfl (by omega) (by omega) (.slice A1 m1 k1') traws (by rfl) (some ⟨w2.heap.size + 1, 0, none⟩) 1 1 [.slice (some ⟨w2.heap.size, 0, none⟩) q q] (by rfl) HR4.out RD.out HO1.out HBY.out ?_; intro B1 m2 c3 w5 hr1 hg1 ha1; obtain ⟨L5, h5, ro5, hk5, c15, z15⟩ := H4.out.1.table H4.out.2.1 H4.out.2.2.1 H4.out.2.2.2.1 H4.out.2.2.2.2.1 hr1.out hg1.out ha1.out; have ct : w5.cell? ⟨wr.heap.size, 1, none⟩ = some (.int .u32 q) := hg1.out.cell (KEY.out _ H4.out.2.2.2.2.2).2 (by simpa using fun e => HX.out.2.2.2 e.symm); have H5 := Lib.hid (And.intro h5 (And.intro ro5 hk5)); clear h5 ro5 hk5 hr1 hg1 ha1
        refine hK.out _ _ (fun _ => by (first | exact KEY.out _ (Below.refl _ _).drew | exact KEY.out _ ((Below.refl _ _).drew.alloc (Nat.le_refl _) _) | exact KEY.out _ (((Below.refl _ _).drew.alloc (Nat.le_refl _) _).alloc (by simp) _) | exact ⟨c15, ct⟩)) (fun hh => ?_)
        have hHeld := hh rfl
        clear hK K
        try simp only [Act.put, List.setIfInBounds_toArray, List.set_cons_zero, List.set_cons_succ]
        refine wpZ_one (i := 12) (oi := ⟨some 68, .nilCheck (.tmp 56), 0, _, _, none⟩) rfl (by kernel_rfl) (fun K hK => ?_)
        go_simp
        refine hK.out _ _ (fun h => by simp at h) (fun _ => ?_)
        clear hK K
        try simp only [Act.put, List.setIfInBounds_toArray, List.set_cons_zero, List.set_cons_succ]
        refine wpZ_one (i := 13) (oi := ⟨some 69, .fieldAddr 217 (.tmp 68) 0, 0, _, _, none⟩) rfl (by kernel_rfl) (fun K hK => ?_)
        go_simp
        refine hK.out _ _ (fun h => by simp at h) (fun _ => ?_)
        clear hK K
        try simp only [Act.put, List.setIfInBounds_toArray, List.set_cons_zero, List.set_cons_succ]
        refine wpZ_one (i := 14) (oi := ⟨some 70, .fieldAddr 44 (.tmp 69) 3, 0, _, _, none⟩) rfl (by kernel_rfl) (fun K hK => ?_)
        go_simp
        refine hK.out _ _ (fun h => by simp at h) (fun _ => ?_)
        clear hK K
        try simp only [Act.put, List.setIfInBounds_toArray, List.set_cons_zero, List.set_cons_succ]
        refine wpZ_one (i := 15) (oi := ⟨none, .store 41 (.tmp 70) (.tmp 67), 0, _, _, none⟩) rfl (by kernel_rfl) (fun K hK => ?_)
        go_simp
        refine hK.out _ _ (fun h => by simp at h) (fun _ => ?_)
        clear hK K
        try simp only [Act.put, List.setIfInBounds_toArray, List.set_cons_zero, List.set_cons_succ]
        refine wpZ_done (by kernel_rfl) ?_ _
        go_wp2
        go_roundw
        case rel =>
          refine ⟨n + 1, hlt, by go_num, mv1, .slice B1 m2 c3, L5, by rw [hTX.out]; exact H5.out.1, ?_, fun q a b c d => (H5.out.2.2 q a b d).trans (HX.out.2.2.1 q a b c d)⟩
          have b4 := below_then HB2.out H4.out.2.2.2.2.2
          have r1 : Ro S wr ((w2.drew.alloc (.cells (Array.replicate q (.int .u64 0)) 58)).alloc (.cells #[.slice (some ⟨w2.heap.size, 0, none⟩) q q] 23)) := ⟨⟨b4.size, b4.os, b4.output⟩, fun b hb => b4.block b (HX.out.1.sep.lt b hb)⟩
          exact (HX.out.2.1.trans' r1).trans' H5.out.2.1
        case measure => (simp [intOf]; try omega)
      · obtain rfl : n = M.tabs.length := by omega
        have hd0 : decide ((M.tabs.length : Int) < (M.tabs.length : Int)) = false := decide_eq_false (by omega)
        have H1 := Lib.hid (And.intro h1 (And.intro ro1 hk1))
        clear h1 ro1 hk1 hlt hn
        go_wp2
        go_end0
        exact ⟨rfl, mv1, tv1, L1, by have := H1.out.1; rwa [List.take_length] at this, H1.out.2.1, H1.out.2.2⟩
  · rw [hmm] at i3 hmr
    obtain ⟨g0, o0, cs0, rfl, _, _, hcs0, hcl0⟩ := hmr.get 0 l0 rfl
    cases hcs0
    have m0 := hcl0 0 _ rfl
    rw [Nat.zero_mul, Nat.add_zero] at m0
    have hb0 := hwf l0 (by rw [hmm]; simp)
    have hb1 := hm.2 l0 (by rw [hmm]; simp)
    have hlen : (l0 :: r0).length = 1 := by have := hm.1; rw [hmm] at this; simp at this ⊢; omega
    rw [hlen] at i3
    obtain ⟨p, hp⟩ : ∃ p : Nat, l0.min = p := ⟨l0.min.toNat, by omega⟩
    have hp1 : p ≤ 1 := by omega
    rw [hp] at m0
    obtain ⟨NN, hNN⟩ : ∃ q : Nat, p * 65536 = q := ⟨_, rfl⟩
    have HMC := Lib.hid (show memC M = List.replicate NN 0 by unfold memC; rw [hmm, ← hNN]; simp [hp])
    obtain ⟨L3, h3, ro3, hk3'⟩ := H.out.mem0 NN (by omega)
    have H2 := Lib.hid (show RoomR w S L u iB M mc bv gv ev dv 0 bl { I with mem := memC M, tabs := tabsC (M.tabs.take 0) } _ from ⟨_, tv, L3, by rw [HMC.out, in_eq2 _ HI.out.2]; exact h3, ro3, fun q a b c d => hk3' q c d⟩)
    have qd : decide ((1 : Int) < (p : Int)) = false := decide_eq_false (by omega)
    have qd' : decide ((p : Int) > 1) = false := decide_eq_false (by omega)
    have qd2 : decide (1 < p) = false := decide_eq_false (by omega)
    have qw : IntKind.i64.wrap (p : Int) = p := IntWalk.i64_in _ (by omega)
    have qw2 : IntKind.i64.wrap ((p : Int) * 65536) = ((NN : Nat) : Int) := by rw [IntWalk.i64_in _ (by omega), ← hNN]; omega
    have hib : iB < w.heap.size := World.block_lt_of_cell? _ _ i2
    have hib2 : iB ≠ w.heap.size := by omega
    have mkE := run_mk w 22 5 (.int .u8 0) 1 Tryz.underlying22 infoU8 rfl (by omega) NN (by omega) .i64 .i64
    clear hNN hmr hk3 hwf hm hmm hcl0 hb0 hb1 hlen hp hp1 h3 ro3 hk3'
    rename_i y1 y2
    clear y1 y2
    go_enter Tryz.func145, Tryz.ntmps145
    go_wp2_with fail
    go_loopw [45] (fun i wr => ∃ n : Nat, n ≤ M.tabs.length ∧ i = .int .i64 n ∧ RoomR w S L u iB M mc bv gv ev dv 0 bl { I with mem := memC M, tabs := tabsC (M.tabs.take n) } wr) (fun i _ => M.tabs.length - (intOf i).toNat)
    case atStart => exact ⟨0, Nat.zero_le _, rfl, by first | exact H2.out | (rw [← World.setCell_alloc_past _ _ _ _ hib]; exact H2.out)⟩
    case round =>
      obtain ⟨n, hn, rfl, mv1, tv1, L1, h1, ro1, hk1⟩ := hrel
      by_cases hlt : n < M.tabs.length
      · have hx : M.tabs[n]? = some M.tabs[n] := List.getElem?_eq_getElem hlt
        generalize M.tabs[n] = x at hx
        have htr1 := HT.out.1.mono ro1 (fun _ h => h) (fun _ _ h => h)
        obtain ⟨g, o, cs, rfl, hSg, _, ⟨ty, rfl⟩, hcs⟩ := htr1.get n x hx
        have k0 := hcs 0 _ rfl
        have k1 := hcs 1 _ rfl
        have k2 := hcs 2 _ rfl
        have k3 := hcs 3 _ rfl
        rw [Nat.add_zero] at k0
        have hmx := HT.out.2.1.2 x (List.mem_of_getElem? hx)
        have hwx := HT.out.2.2.lims x (List.mem_append_right _ (List.mem_of_getElem? hx))
        obtain ⟨q, hq⟩ : ∃ q : Nat, x.min = q := ⟨x.min.toNat, by omega⟩
        rw [hq] at k1
        have hq1 : q ≤ 64 := by omega
        have e1 : decide ((64 : Int) < (q : Int)) = false := decide_eq_false (by omega)
        have e2 : decide ((q : Int) > 64) = false := decide_eq_false (by omega)
        have e3 : decide (64 < q) = false := decide_eq_false (by omega)
        have hi : IntKind.i64.wrap ((n : Int) + 1) = (n : Int) + 1 := IntWalk.i64_in _ (by have := HT.out.2.1.1; omega)
        have i1 : decide ((n : Int) < (M.tabs.length : Int)) = true := decide_eq_true (by omega)
        have bel2 : Below wr.heap.size wr (wr.alloc (.cells #[.int .u8 ty, .int .u32 q, .int .u32 x.max, .bool x.has] 101)) := (Below.refl _ _).alloc (Nat.le_refl _) _
        have h2 := h1.still bel2
        have hTX := Lib.hid (show tabsC (M.tabs.take (n + 1)) = tabsC (M.tabs.take n) ++ [List.replicate q 0] by rw [List.take_add_one, hx]; simp [tabsC, hq])
        have hTL : (tabsC (M.tabs.take n)).length = n := by simp [tabsC]; omega
        obtain ⟨traws, t1, t2, t3⟩ := h2.tabs
        rw [hTL] at t1
        have hrow := h2.sep.holds _ _ t2
        obtain ⟨A1, m1, k1', rfl, _, _, hxl, _⟩ := Row.rd hrow
        have i15 : (wr.alloc (.cells #[.int .u8 ty, .int .u32 q, .int .u32 x.max, .bool x.has] 101)).cell? ⟨iB, 15, none⟩ = some (.slice A1 m1 k1') := h2.cell 15 _ (h2.tail 2)
        have tB1 : (wr.alloc (.cells #[.int .u8 ty, .int .u32 q, .int .u32 x.max, .bool x.has] 101)).cell? ⟨wr.heap.size, 1, none⟩ = some (.int .u32 q) := by simp
        have hrb : rowBlock (.slice A1 m1 k1') ≠ some wr.heap.size := by
          intro hh
          obtain ⟨traws0, _, b2, _⟩ := h1.tabs
          have := Ck.lt (h1.sep.holds _ _ b2) hh
          omega
        have HX := Lib.hid (And.intro h1 (And.intro ro1 (And.intro hk1 hrb)))
        clear h1 ro1 hk1 htr1 hSg hcs hmx hwx hn hx hrow hxl hrb
        generalize hwb : wr.alloc (.cells #[.int .u8 ty, .int .u32 q, .int .u32 x.max, .bool x.has] 101) = w2 at h2 i15 tB1 bel2
        have i15 := i15
        have HB2 := Lib.hid bel2
        have KEY := Lib.hid (show ∀ w', Below w2.heap.size w2 w' → w'.cell? ⟨iB, 15, none⟩ = some (.slice A1 m1 k1') ∧ w'.cell? ⟨wr.heap.size, 1, none⟩ = some (.int .u32 q) from fun w' hb => ⟨(hb.cell (World.block_lt_of_cell? _ _ i15)).trans i15, (hb.cell (World.block_lt_of_cell? _ _ tB1)).trans tB1⟩)
        have mk2 := run_mk w2.drew 23 58 (.int .u64 0) 8 Tryz.underlying23 infoU64 rfl (by omega) q (by omega) .u32 .u32
        have b3 : Below w2.heap.size w2 (w2.drew.alloc (.cells (Array.replicate q (.int .u64 0)) 58)) := (Below.refl _ _).drew.alloc (Nat.le_refl _) _
        have b4 : Below w2.heap.size w2 ((w2.drew.alloc (.cells (Array.replicate q (.int .u64 0)) 58)).alloc (.cells #[.slice (some ⟨w2.heap.size, 0, none⟩) q q] 23)) := b3.alloc (by simp) _
        have h4 := h2.still b4
        have s3 := (h2.sep.drew).newRow (.tab u n) (Array.replicate q (.int .u64 0)) 58 1 q (by simp) (by simp [maxLen]; omega)
        rw [Array.toList_replicate, ← ints_rep] at s3
        have s4 := s3.alloc (.cells #[.slice (some ⟨w2.heap.size, 0, none⟩) q q] 23)
        have hrow4 := h4.sep.holds _ _ t2
        have RD := Lib.hid (show Rd ((w2.drew.alloc (.cells (Array.replicate q (.int .u64 0)) 58)).alloc (.cells #[.slice (some ⟨w2.heap.size, 0, none⟩) q q] 23)) 1 (some ⟨w2.heap.size + 1, 0, none⟩) 1 [.slice (some ⟨w2.heap.size, 0, none⟩) q q] from ⟨rfl, fun _ => ⟨_, rfl, rfl, fun j u hu => by
          cases j with
          | zero => simp at hu; subst hu; rw [show (Addr.mk (w2.heap.size + 1) 0 none).add 0 = ⟨w2.heap.size + 1, 0, none⟩ by simp [Addr.add], show w2.heap.size + 1 = (w2.drew.alloc (.cells (Array.replicate q (.int .u64 0)) 58)).heap.size by simp]; exact cell_new _ _ _
          | succ j => simp at hu⟩⟩)
        have HBY := Lib.hid (show (traws.length + 1) * 24 ≤ 140737488355328 from by have := HT.out.2.1.1; omega)
        have HO1 := Lib.hid (show ∀ z ∈ [Value.slice (some ⟨w2.heap.size, 0, none⟩) q q], z.oneCell' = true by simp [Value.oneCell'])
        have H4 := Lib.hid (And.intro h4 (And.intro (show Sep _ S (upd L1 (.tab u (tabsC (M.tabs.take n)).length) _) by rw [hTL]; exact s4) (And.intro (show traws.length = (tabsC (M.tabs.take n)).length by rw [hTL]; exact t1) (And.intro t2 (And.intro t3 b4)))))
        have HR4 := Lib.hid hrow4
        clear h2 b3 b4 h4 s3 s4 hrow4 t1 t2 t3 hTL bel2 i2
        rename_i y1 y2
        clear y1 y2
        go_wp2_with fail
        refine wp_region_z (fun w' => w'.cell? ⟨iB, 15, none⟩ = some (.slice A1 m1 k1') ∧ w'.cell? ⟨wr.heap.size, 1, none⟩ = some (.int .u32 q)) (fun j => j == 12 || j == 13 || j == 14 || j == 15) (by kernel_rfl) ?_ (fun hHeld => ?_)
        · first | exact KEY.out _ (Below.refl _ _).drew | exact KEY.out _ ((Below.refl _ _).drew.alloc (Nat.le_refl _) _) | exact KEY.out _ (((Below.refl _ _).drew.alloc (Nat.le_refl _) _).alloc (by simp) _) | exact ⟨c15, ct⟩
        (refine wpZ_take (i := 0) (oi := ⟨some 56, .move (.tmp 0), 215, _, _, none⟩) (v := ?_) rfl (by kernel_rfl) (fun _ _ _ h => h) (by assumption) (Or.inl ⟨by rfl, ?_⟩) ?_; rotate_left 1; · ((intro w hSw; (try dsimp only at hSw); go_split_ands; go_simp) <;> (try with_reducible rfl)))
        try simp only [Act.put, List.setIfInBounds_toArray, List.set_cons_zero, List.set_cons_succ]
        (refine wpZ_take (i := 1) (oi := ⟨some 57, .move (.tmp 0), 215, _, _, none⟩) (v := ?_) rfl (by kernel_rfl) (fun _ _ _ h => h) (by assumption) (Or.inl ⟨by rfl, ?_⟩) ?_; rotate_left 1; · ((intro w hSw; (try dsimp only at hSw); go_split_ands; go_simp) <;> (try with_reducible rfl)))
        try simp only [Act.put, List.setIfInBounds_toArray, List.set_cons_zero, List.set_cons_succ]
        (refine wpZ_take (i := 2) (oi := ⟨some 58, .nilCheck (.tmp 57), 0, _, _, none⟩) (v := ?_) rfl (by kernel_rfl) (fun _ _ _ h => h) (by assumption) (Or.inl ⟨by rfl, ?_⟩) ?_; rotate_left 1; · ((intro w hSw; (try dsimp only at hSw); go_split_ands; go_simp) <;> (try with_reducible rfl)))
        try simp only [Act.put, List.setIfInBounds_toArray, List.set_cons_zero, List.set_cons_succ]
        (refine wpZ_take (i := 3) (oi := ⟨some 59, .fieldAddr 217 (.tmp 58) 0, 0, _, _, none⟩) (v := ?_) rfl (by kernel_rfl) (fun _ _ _ h => h) (by assumption) (Or.inl ⟨by rfl, ?_⟩) ?_; rotate_left 1; · ((intro w hSw; (try dsimp only at hSw); go_split_ands; go_simp) <;> (try with_reducible rfl)))
        try simp only [Act.put, List.setIfInBounds_toArray, List.set_cons_zero, List.set_cons_succ]
        (refine wpZ_take (i := 4) (oi := ⟨some 60, .fieldAddr 44 (.tmp 59) 3, 0, _, _, none⟩) (v := ?_) rfl (by kernel_rfl) (fun _ _ _ h => h) (by assumption) (Or.inl ⟨by rfl, ?_⟩) ?_; rotate_left 1; · ((intro w hSw; (try dsimp only at hSw); go_split_ands; go_simp) <;> (try with_reducible rfl)))
        try simp only [Act.put, List.setIfInBounds_toArray, List.set_cons_zero, List.set_cons_succ]
        (refine wpZ_take (i := 5) (oi := ⟨some 61, .load 41 (.tmp 60), 41, _, _, none⟩) (v := ?_) rfl (by kernel_rfl) (fun _ _ _ h => h) (by assumption) (Or.inl ⟨by rfl, ?_⟩) ?_; rotate_left 1; · ((intro w hSw; (try dsimp only at hSw); go_split_ands; go_simp) <;> (try with_reducible rfl)))
        try simp only [Act.put, List.setIfInBounds_toArray, List.set_cons_zero, List.set_cons_succ]
        (refine wpZ_take (i := 6) (oi := ⟨some 62, .fieldAddr 101 (.tmp 4) 1, 0, _, _, none⟩) (v := ?_) rfl (by kernel_rfl) (fun _ _ _ h => h) (by assumption) (Or.inl ⟨by rfl, ?_⟩) ?_; rotate_left 1; · ((intro w hSw; (try dsimp only at hSw); go_split_ands; go_simp) <;> (try with_reducible rfl)))
        try simp only [Act.put, List.setIfInBounds_toArray, List.set_cons_zero, List.set_cons_succ]
        (refine wpZ_take (i := 7) (oi := ⟨some 63, .fieldAddr 69 (.tmp 62) 0, 0, _, _, none⟩) (v := ?_) rfl (by kernel_rfl) (fun _ _ _ h => h) (by assumption) (Or.inl ⟨by rfl, ?_⟩) ?_; rotate_left 1; · ((intro w hSw; (try dsimp only at hSw); go_split_ands; go_simp) <;> (try with_reducible rfl)))
        try simp only [Act.put, List.setIfInBounds_toArray, List.set_cons_zero, List.set_cons_succ]
        (refine wpZ_take (i := 8) (oi := ⟨some 64, .load 28 (.tmp 63), 28, _, _, none⟩) (v := ?_) rfl (by kernel_rfl) (fun _ _ _ h => h) (by assumption) (Or.inl ⟨by rfl, ?_⟩) ?_; rotate_left 1; · ((intro w hSw; (try dsimp only at hSw); go_split_ands; go_simp) <;> (try with_reducible rfl)))
        try simp only [Act.put, List.setIfInBounds_toArray, List.set_cons_zero, List.set_cons_succ]
        refine wpZ_one (i := 9) (oi := ⟨some 65, .makeSlice 23 (.tmp 64) (.tmp 64), 23, _, _, none⟩) rfl (by kernel_rfl) (fun K hK => ?_)
        go_simp
        refine hK.out _ _ (fun _ => by (first | exact KEY.out _ (Below.refl _ _).drew | exact KEY.out _ ((Below.refl _ _).drew.alloc (Nat.le_refl _) _) | exact KEY.out _ (((Below.refl _ _).drew.alloc (Nat.le_refl _) _).alloc (by simp) _) | exact ⟨c15, ct⟩)) (fun hh => ?_)
        have hHeld := hh rfl
        clear hK K
        try simp only [Act.put, List.setIfInBounds_toArray, List.set_cons_zero, List.set_cons_succ]
        refine wpZ_one (i := 10) (oi := ⟨some 66, .buildSlice 41 1 #[(0, .tmp 65)], 41, _, _, none⟩) rfl (by kernel_rfl) (fun K hK => ?_)
        go_simp
        refine hK.out _ _ (fun _ => by (first | exact KEY.out _ (Below.refl _ _).drew | exact KEY.out _ ((Below.refl _ _).drew.alloc (Nat.le_refl _) _) | exact KEY.out _ (((Below.refl _ _).drew.alloc (Nat.le_refl _) _).alloc (by simp) _) | exact ⟨c15, ct⟩)) (fun hh => ?_)
        have hHeld := hh rfl
        clear hK K
        try simp only [Act.put, List.setIfInBounds_toArray, List.set_cons_zero, List.set_cons_succ]
        refine wpZ_one (i := 11) (oi := ⟨some 67, .call { callee := .builtin .append, args := #[.tmp 61, .tmp 66], argTypes := #[41, 41] }, 41, _, _, none⟩) rfl (by kernel_rfl) (fun K hK => ?_)
        refine step_append_row (by rfl) _ _ _ (by rfl) 23 1 _ 24 Tryz.underlying41 infoRow rfl (by omega) (by omega) (.slice A1 m1 k1') traws (by rfl) (some ⟨w2.heap.size + 1, 0, none⟩) 1 1 [.slice (some ⟨w2.heap.size, 0, none⟩) q q] (by rfl) HR4.out RD.out HO1.out HBY.out ?_; intro B1 m2 c3 w5 hr1 hg1 ha1; obtain ⟨L5, h5, ro5, hk5, c15, z15⟩ := H4.out.1.table H4.out.2.1 H4.out.2.2.1 H4.out.2.2.2.1 H4.out.2.2.2.2.1 hr1.out hg1.out ha1.out; have ct : w5.cell? ⟨wr.heap.size, 1, none⟩ = some (.int .u32 q) := hg1.out.cell (KEY.out _ H4.out.2.2.2.2.2).2 (by simpa using fun e => HX.out.2.2.2 e.symm); have H5 := Lib.hid (And.intro h5 (And.intro ro5 hk5)); clear h5 ro5 hk5 hr1 hg1 ha1
        refine hK.out _ _ (fun _ => by (first | exact KEY.out _ (Below.refl _ _).drew | exact KEY.out _ ((Below.refl _ _).drew.alloc (Nat.le_refl _) _) | exact KEY.out _ (((Below.refl _ _).drew.alloc (Nat.le_refl _) _).alloc (by simp) _) | exact ⟨c15, ct⟩)) (fun hh => ?_)
        have hHeld := hh rfl
        clear hK K
        try simp only [Act.put, List.setIfInBounds_toArray, List.set_cons_zero, List.set_cons_succ]
        refine wpZ_one (i := 12) (oi := ⟨some 68, .nilCheck (.tmp 56), 0, _, _, none⟩) rfl (by kernel_rfl) (fun K hK => ?_)
        go_simp
        refine hK.out _ _ (fun h => by simp at h) (fun _ => ?_)
        clear hK K
        try simp only [Act.put, List.setIfInBounds_toArray, List.set_cons_zero, List.set_cons_succ]
        refine wpZ_one (i := 13) (oi := ⟨some 69, .fieldAddr 217 (.tmp 68) 0, 0, _, _, none⟩) rfl (by kernel_rfl) (fun K hK => ?_)
        go_simp
        refine hK.out _ _ (fun h => by simp at h) (fun _ => ?_)
        clear hK K
        try simp only [Act.put, List.setIfInBounds_toArray, List.set_cons_zero, List.set_cons_succ]
        refine wpZ_one (i := 14) (oi := ⟨some 70, .fieldAddr 44 (.tmp 69) 3, 0, _, _, none⟩) rfl (by kernel_rfl) (fun K hK => ?_)
        go_simp
        refine hK.out _ _ (fun h => by simp at h) (fun _ => ?_)
        clear hK K
        try simp only [Act.put, List.setIfInBounds_toArray, List.set_cons_zero, List.set_cons_succ]
        refine wpZ_one (i := 15) (oi := ⟨none, .store 41 (.tmp 70) (.tmp 67), 0, _, _, none⟩) rfl (by kernel_rfl) (fun K hK => ?_)
        go_simp
        refine hK.out _ _ (fun h => by simp at h) (fun _ => ?_)
        clear hK K
        try simp only [Act.put, List.setIfInBounds_toArray, List.set_cons_zero, List.set_cons_succ]
        refine wpZ_done (by kernel_rfl) ?_ _
        go_wp2
        go_roundw
        case rel =>
          refine ⟨n + 1, hlt, by go_num, mv1, .slice B1 m2 c3, L5, by rw [hTX.out]; exact H5.out.1, ?_, fun q a b c d => (H5.out.2.2 q a b d).trans (HX.out.2.2.1 q a b c d)⟩
          have b4 := below_then HB2.out H4.out.2.2.2.2.2
          have r1 : Ro S wr ((w2.drew.alloc (.cells (Array.replicate q (.int .u64 0)) 58)).alloc (.cells #[.slice (some ⟨w2.heap.size, 0, none⟩) q q] 23)) := ⟨⟨b4.size, b4.os, b4.output⟩, fun b hb => b4.block b (HX.out.1.sep.lt b hb)⟩
          exact (HX.out.2.1.trans' r1).trans' H5.out.2.1
        case measure => (simp [intOf]; try omega)
      · obtain rfl : n = M.tabs.length := by omega
        have hd0 : decide ((M.tabs.length : Int) < (M.tabs.length : Int)) = false := decide_eq_false (by omega)
        have H1 := Lib.hid (And.intro h1 (And.intro ro1 hk1))
        clear h1 ro1 hk1 hlt hn
        go_wp2
        go_end0
        exact ⟨rfl, mv1, tv1, L1, by have := H1.out.1; rwa [List.take_length] at this, H1.out.2.1, H1.out.2.2⟩
end Go.Proofs.YtjbdldekllffkaaGreatDoor
