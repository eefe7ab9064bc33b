/- Lemmas of the walk, part 12. -/
import Derived.Test.YtmnebeikafigjaaGreatDoorJ11
import Derived.Test.YtmnebeikafigjaaGreatDoorJ10
import Derived.Laws.BitsAll
/- The reference's New. -/
set_option linter.unusedVariables false
set_option linter.unusedSimpArgs false
namespace Go.Proofs.YtmnebeikafigjaaGreatDoor
open Go.RowKit Go.Sep Go.St
variable {w : World} {S : Nat → Prop} {L : Key → Option Ck} {u : Nat} {M : Mo} {mc : List Value}
/-- An instance on its way. -/
def NwR (w : World) (S : Nat → Prop) (L : Key → Option Ck) (u iB : Nat) (M : Mo) (mc : List Value) (bl : List Es) (I : In) (w' : World) : Prop :=
  ∃ bv mv tv gv ev dv S' L', Mkr w' S' L' u iB M mc bv mv tv gv ev dv [] bl I ∧ Ro S w w' ∧ (∀ b, S b → S' b) ∧ ∀ q : Key, q.own ≠ some u → q ≠ .tmp 3 → L' q = L q
set_option maxRecDepth 100000 in
set_option maxHeartbeats 8000000 in
theorem rnew_c (hs : Sep w S L) (hm : ModR w S M mc) (hw : Wf M) (k0 : L .mach = none) (k1 : L (.cfg u) = none) {xA : Option Addr} {xn xc : Nat} {st : Bool} {sn : Int} {cs : Bool} {cn : Int} (hx : Mx mc xA xn xc st sn cs cn) (ess : List Es) (hF : Fine M ess) :
    Calls Tryz.prog 33 #[.agg mc.toArray] w (NewR w S L u M mc (newI M ess)) := by
  obtain ⟨tA, fA, bA, mA, gA, eA, cA, dA, tc, fc, bc, mk, gc, ec, cc, dc, ⟨hmf⟩⟩ := hm.form hx
  have HS := Lib.hid hs
  have HM := Lib.hid hm
  have HF := Lib.hid (And.intro hF hw)
  have HK := Lib.hid (And.intro k0 k1)
  have HMF := Lib.hid hmf
  subst hmf
  clear hs hm hw k0 k1 hx hF
  go_enter Tryz.func33, Tryz.ntmps33
  go_upto_region 1 with (fail)
  refine all_worldC (fun W' => Below w.heap.size w W' ∧ ∀ (j : Nat) (v : Value), [Value.slice tA M.types.length tc, .slice fA M.funcs.length fc, .slice bA M.tabs.length bc, .slice mA M.mems.length mk, .slice gA M.globs.length gc, .slice xA xn xc, .bool st, .int .u32 sn, .slice eA M.elems.length ec, .bool cs, .int .u32 cn, .slice cA M.codes.length cc, .slice dA M.datas.length dc][j]? = some v → W'.cell? ⟨w.heap.size, j, none⟩ = some v) ⟨(Below.refl _ _).alloc (Nat.le_refl _) _, fun j v hj => by
    simp only [World.cell?, (Go.MapKept.heap_alloc w _).1]
    simpa using hj⟩ ?_
  rintro w1 ⟨hb1, hc⟩
  generalize hpB : w.heap.size = pB at hc ⊢
  have p0 := hc 0 _ rfl
  have p1 := hc 1 _ rfl
  have p2 := hc 2 _ rfl
  have p3 := hc 3 _ rfl
  have p4 := hc 4 _ rfl
  have p5 := hc 5 _ rfl
  have p6 := hc 6 _ rfl
  have p7 := hc 7 _ rfl
  have p8 := hc 8 _ rfl
  have p9 := hc 9 _ rfl
  have p10 := hc 10 _ rfl
  have p11 := hc 11 _ rfl
  have p12 := hc 12 _ rfl
  have hlt : pB < w1.heap.size := World.block_lt_of_cell? _ _ p0
  have HS1 := Lib.hid (show Sep w1 (fun b => S b ∨ b = pB) L from (HS.out.still hb1.size hb1.block).more (fun k c b e1 e2 hb => by
    rcases hb with hb | rfl
    · exact HS.out.ro k c b e1 e2 hb
    · have := Ck.lt (HS.out.holds k c e1) e2
      omega) (fun b hb => by
    rcases hb with hb | rfl
    · exact Nat.lt_of_lt_of_le (HS.out.lt b hb) hb1.size
    · exact hlt))
  have ro01 : Ro S w w1 := ⟨⟨hb1.size, hb1.os, hb1.output⟩, fun b hb => hb1.block b (HS.out.lt b hb)⟩
  have HM1 := Lib.hid (HM.out.mono (S' := fun b => S b ∨ b = pB) ro01 (fun b hb => .inl hb))
  have HRO := Lib.hid ro01
  clear hb1 hc hpB ro01
  go_upto_region 2 with (fail)
  refine all_worldC (fun W' => ∃ L2, Mkr W' (fun b => S b ∨ b = pB) L2 u w1.heap.size M [.slice tA M.types.length tc, .slice fA M.funcs.length fc, .slice bA M.tabs.length bc, .slice mA M.mems.length mk, .slice gA M.globs.length gc, .slice xA xn xc, .bool st, .int .u32 sn, .slice eA M.elems.length ec, .bool cs, .int .u32 cn, .slice cA M.codes.length cc, .slice dA M.datas.length dc] (.slice none 0 0) (.slice none 0 0) (.slice none 0 0) (.slice none 0 0) (.slice none 0 0) (.slice none 0 0) [] [] { blocks := [], mem := [], tabs := [], glo := [], els := [], das := [] } ∧ Ro (fun b => S b ∨ b = pB) w1 W' ∧ ∀ q : Key, q.own ≠ some u → q ≠ .tmp 3 → L2 q = L q) (rmk_start HS1.out HM1.out HF.out.2 HK.out.1 HK.out.2 67) ?_
  rintro w2 ⟨L2, h2, ro2, hk2⟩
  have HP := Lib.hid (show ∀ w', Ro (fun b => S b ∨ b = pB) w2 w' → w'.cell? ⟨pB, 2, none⟩ = some (.slice bA M.tabs.length bc) ∧ w'.cell? ⟨pB, 4, none⟩ = some (.slice gA M.globs.length gc) ∧ w'.cell? ⟨pB, 8, none⟩ = some (.slice eA M.elems.length ec) ∧ w'.cell? ⟨pB, 11, none⟩ = some (.slice cA M.codes.length cc) ∧ w'.cell? ⟨pB, 12, none⟩ = some (.slice dA M.datas.length dc) from fun w' r => by
    have e := ro2.trans' r
    have c : ∀ j, w'.cell? ⟨pB, j, none⟩ = w1.cell? ⟨pB, j, none⟩ := fun j => World.cell?_of_block (a := ⟨pB, j, none⟩) (e.2 pB (.inr rfl))
    exact ⟨(c _).trans p2, (c _).trans p4, (c _).trans p8, (c _).trans p11, (c _).trans p12⟩)
  replace p3 : w2.cell? ⟨pB, 3, none⟩ = some (.slice mA M.mems.length mk) := (World.cell?_of_block (a := ⟨pB, 3, none⟩) (ro2.2 pB (.inr rfl))).trans p3
  generalize w1.heap.size = iB at h2 ⊢
  generalize hmcl : ([Value.slice tA M.types.length tc, .slice fA M.funcs.length fc, .slice bA M.tabs.length bc, .slice mA M.mems.length mk, .slice gA M.globs.length gc, .slice xA xn xc, .bool st, .int .u32 sn, .slice eA M.elems.length ec, .bool cs, .int .u32 cn, .slice cA M.codes.length cc, .slice dA M.datas.length dc] : List Value) = mcl at h2 HM HS HM1 HS1 ⊢
  have HML := Lib.hid hmcl
  clear hmcl
  have H2 := Lib.hid (show NwR w1 (fun b => S b ∨ b = pB) L u iB M mcl [] { blocks := [], mem := [], tabs := [], glo := [], els := [], das := [] } w2 from ⟨_, _, _, _, _, _, _, L2, h2, ro2, fun _ h => h, hk2⟩)
  have i14 := h2.cell 14 _ (h2.tail 1)
  have z14 := h2.sep.frozen h2.ins 14
  have hib : iB < w2.heap.size := World.block_lt_of_cell? _ _ i14
  obtain ⟨mlv, hmlv, hmr⟩ := h2.mod.mems
  rw [← HML.out] at hmlv
  cases hmlv
  have HR2 := Lib.hid ro2
  have HMM0 := Lib.hid (fun n (hn : n ≤ 1000000) => h2.mem0 n hn)
  have HK2 := Lib.hid hk2
  clear h2 ro2 hk2 p0 p1 p2 p4 p5 p6 p7 p8 p9 p10 p11 p12 hlt
  have SPLIT : M.mems = [] ∨ ∃ l0, M.mems = [l0] := by
    have := HF.out.1.mems.1
    cases hmm : M.mems with
    | nil => exact .inl rfl
    | cons a r =>
      rw [hmm] at this
      cases r with
      | nil => exact .inr ⟨a, rfl⟩
      | cons b r => simp at this
  rcases SPLIT with hmm | ⟨l0, hmm⟩
  case' inl =>
    rw [hmm] at p3
    have H3 := Lib.hid (show NwR w1 (fun b => S b ∨ b = pB) L u iB M mcl [] { blocks := [], mem := memC M, tabs := tabsC (M.tabs.take 0), glo := [], els := [], das := [] } w2 from by rw [show memC M = [] by unfold memC; rw [hmm]]; exact H2.out)
    clear hmr i14 z14 hib hmm
    go_upto_region 6 with (fail)
    refine all_worldC (fun W' => NwR w1 (fun b => S b ∨ b = pB) L u iB M mcl [] { blocks := [], mem := memC M, tabs := tabsC (M.tabs.take 0), glo := [], els := [], das := [] } W' ∧ Ro (fun b => S b ∨ b = pB) w2 W') ⟨H3.out, Ro.refl _ _⟩ ?_
    clear H3 p3
  case' inr =>
    rw [hmm] at p3
    obtain ⟨g0, o0, cs0, rfl, _, _, hcs0, hcl0⟩ := hmr.get 0 l0 (by rw [hmm]; rfl)
    cases hcs0
    have m0 := hcl0 0 _ rfl
    rw [Nat.zero_mul, Nat.add_zero] at m0
    have hb0 := HF.out.2.lims l0 (by rw [hmm]; simp)
    have hb1 := HF.out.1.mems.2 l0 (by rw [hmm]; simp)
    obtain ⟨p, hp⟩ : ∃ p : Nat, l0.min = p := ⟨l0.min.toNat, by omega⟩
    have hp1 : p ≤ 1 := by omega
    rw [hp] at m0
    obtain ⟨NN, hNN⟩ : ∃ q : Nat, p * 65536 = q := ⟨_, rfl⟩
    have HMC := Lib.hid (show memC M = List.replicate NN 0 by unfold memC; rw [hmm, ← hNN]; simp [hp])
    have HMM := Lib.hid (HMM0.out NN (by omega))
    have qd : decide ((1 : Int) < (p : Int)) = false := decide_eq_false (by omega)
    have qd' : decide ((p : Int) > 1) = false := decide_eq_false (by omega)
    have qd2 : decide (1 < p) = false := decide_eq_false (by omega)
    have qw : IntKind.i64.wrap (p : Int) = p := IntWalk.i64_in _ (by omega)
    have qw2 : IntKind.i64.wrap ((p : Int) * 65536) = ((NN : Nat) : Int) := by rw [IntWalk.i64_in _ (by omega), ← hNN]; omega
    have hib2 : iB ≠ w2.heap.size := by omega
    have mkE := run_mk w2 34 5 (.int .u8 0) 1 Tryz.underlying34 infoU8 rfl (by omega) NN (by omega) .i64 .i64
    clear hNN hmr hmm hcl0 hb0 hb1 hp hp1
    go_upto_region 6 with (fail)
    have H3 : NwR w1 (fun b => S b ∨ b = pB) L u iB M mcl [] { blocks := [], mem := memC M, tabs := tabsC (M.tabs.take 0), glo := [], els := [], das := [] } ((w2.alloc (.cells (Array.replicate NN (.int .u8 0)) 5)).setCell ⟨iB, 14, none⟩ (.slice (some ⟨w2.heap.size, 0, none⟩) NN NN)) ∧ Ro (fun b => S b ∨ b = pB) w2 ((w2.alloc (.cells (Array.replicate NN (.int .u8 0)) 5)).setCell ⟨iB, 14, none⟩ (.slice (some ⟨w2.heap.size, 0, none⟩) NN NN)) := by
      obtain ⟨L', a, b, c⟩ := HMM.out
      refine ⟨⟨_, _, _, _, _, _, _, L', by rw [HMC.out]; exact a, HR2.out.trans' b, fun _ h => h, fun q e f => (c q (by rintro rfl; exact e rfl) (by rintro rfl; exact e rfl)).trans (HK2.out q e f)⟩, b⟩
    refine all_worldC (fun W' => NwR w1 (fun b => S b ∨ b = pB) L u iB M mcl [] { blocks := [], mem := memC M, tabs := tabsC (M.tabs.take 0), glo := [], els := [], das := [] } W' ∧ Ro (fun b => S b ∨ b = pB) w2 W') (by first | exact H3 | (rw [← World.setCell_alloc_past _ _ _ _ hib]; exact H3)) ?_
    clear H3 p3 HMM HMC qd qd' qd2 qw qw2 hib2 mkE m0 i14 z14 hib
  all_goals
    rintro w3 ⟨h3, ro3⟩
    have H3 := Lib.hid (And.intro h3 ro3)
    obtain ⟨q2, q4, q8, q11, q12⟩ := HP.out w3 ro3
    clear h3 ro3
    have HWT := Lib.hid HF.out.1.tabs
    go_wp2_with fail
    go_loopw [5] (fun i wr => ∃ n : Nat, n ≤ M.tabs.length ∧ i = .int .i64 n ∧ NwR w1 (fun b => S b ∨ b = pB) L u iB M mcl [] { blocks := [], mem := memC M, tabs := tabsC (M.tabs.take n), glo := [], els := [], das := [] } wr ∧ Ro (fun b => S b ∨ b = pB) w2 wr) (fun i _ => M.tabs.length - (intOf i).toNat)
    case atStart => exact ⟨0, Nat.zero_le _, rfl, H3.out⟩
    case round =>
      obtain ⟨n, hn, rfl, ⟨bv, mv, tv, gv, ev, dv, S1, L1, h1, ro1, hS1, hk1⟩, ro21⟩ := hrel
      obtain ⟨q2, q4, q8, q11, q12⟩ := HP.out wr ro21
      by_cases hlt : n < M.tabs.length
      · have hx : M.tabs[n]? = some M.tabs[n] := List.getElem?_eq_getElem hlt
        generalize M.tabs[n] = x at hx
        obtain ⟨tlv, htlv, htr⟩ := h1.mod.tabs
        rw [← HML.out] at htlv
        cases htlv
        obtain ⟨g, o, cs, rfl, hSg, _, ⟨ty, rfl⟩, hcs⟩ := htr.get n x hx
        have k1 := hcs 1 _ rfl
        have hmx := HWT.out.2 x (List.mem_of_getElem? hx)
        have hwx := HF.out.2.lims x (List.mem_append_right _ (List.mem_of_getElem? hx))
        obtain ⟨q, hq⟩ : ∃ q : Nat, x.min = q := ⟨x.min.toNat, by omega⟩
        rw [hq] at k1
        have hq1 : q ≤ 64 := by omega
        have e1 : decide ((64 : Int) < (q : Int)) = false := decide_eq_false (by omega)
        have e2 : decide ((q : Int) > 64) = false := decide_eq_false (by omega)
        have e3 : decide (64 < q) = false := decide_eq_false (by omega)
        have hi : IntKind.i64.wrap ((n : Int) + 1) = (n : Int) + 1 := IntWalk.i64_in _ (by have := HWT.out.1; omega)
        have i1 : decide ((n : Int) < (M.tabs.length : Int)) = true := decide_eq_true (by omega)
        have i2 : (n : Int) < (M.tabs.length : Int) := by omega
        have hTX := Lib.hid (show tabsC (M.tabs.take (n + 1)) = tabsC (M.tabs.take n) ++ [List.replicate q 0] by rw [List.take_add_one, hx]; simp [tabsC, hq])
        have hTL : (tabsC (M.tabs.take n)).length = n := by simp [tabsC]; omega
        obtain ⟨traws, t1, t2, t3⟩ := h1.tabs
        have hrow := h1.sep.holds _ _ t2
        obtain ⟨A1, m1, c1, rfl, _, _, hxl, _⟩ := Row.rd hrow
        have i15 := h1.cell 15 _ (h1.tail 2)
        have KEY := Lib.hid (show ∀ w', Below wr.heap.size wr w' → w'.cell? ⟨iB, 15, none⟩ = some (.slice A1 m1 c1) ∧ w'.cell? ⟨pB, 2, none⟩ = some (.slice (some ⟨g, o, none⟩) M.tabs.length bc) ∧ w'.cell? ⟨g, o + n * 4 + 1, none⟩ = some (.int .u32 q) from fun w' hb => ⟨(hb.cell (World.block_lt_of_cell? _ _ i15)).trans i15, (hb.cell (World.block_lt_of_cell? _ _ q2)).trans q2, (hb.cell (World.block_lt_of_cell? _ _ k1)).trans k1⟩)
        have mk2 := run_mk wr.drew 57 26 (.int .u64 0) 8 Tryz.underlying57 infoU64 rfl (by omega) q (by omega) .u32 .u32
        have b3 : Below wr.heap.size wr (wr.drew.alloc (.cells (Array.replicate q (.int .u64 0)) 26)) := (Below.refl _ _).drew.alloc (Nat.le_refl _) _
        have b4 : Below wr.heap.size wr ((wr.drew.alloc (.cells (Array.replicate q (.int .u64 0)) 26)).alloc (.cells #[.slice (some ⟨wr.heap.size, 0, none⟩) q q] 57)) := b3.alloc (by simp) _
        have h4 := h1.still b4
        have s3 := (h1.sep.drew).newRow (.tab u n) (Array.replicate q (.int .u64 0)) 26 1 q (by simp) (by simp [maxLen]; omega)
        rw [Array.toList_replicate, ← ints_rep] at s3
        have s4 := s3.alloc (.cells #[.slice (some ⟨wr.heap.size, 0, none⟩) q q] 57)
        have hrow4 := h4.sep.holds _ _ t2
        have RD := Lib.hid (show Rd ((wr.drew.alloc (.cells (Array.replicate q (.int .u64 0)) 26)).alloc (.cells #[.slice (some ⟨wr.heap.size, 0, none⟩) q q] 57)) 1 (some ⟨wr.heap.size + 1, 0, none⟩) 1 [.slice (some ⟨wr.heap.size, 0, none⟩) q q] from ⟨rfl, fun _ => ⟨_, rfl, rfl, fun j u hu => by
          cases j with
          | zero => simp at hu; subst hu; rw [show (Addr.mk (wr.heap.size + 1) 0 none).add 0 = ⟨wr.heap.size + 1, 0, none⟩ by simp [Addr.add], show wr.heap.size + 1 = (wr.drew.alloc (.cells (Array.replicate q (.int .u64 0)) 26)).heap.size by simp]; exact cell_new _ _ _
          | succ j => simp at hu⟩⟩)
        rw [hTL] at t1
        have HBY := Lib.hid (show (traws.length + 1) * 24 ≤ 140737488355328 from by have := HWT.out.1; omega)
        have HO1 := Lib.hid (show ∀ z ∈ [Value.slice (some ⟨wr.heap.size, 0, none⟩) q q], z.oneCell' = true by simp [Value.oneCell'])
        have H4 := Lib.hid (And.intro h4 (And.intro (show Sep _ S1 (upd L1 (.tab u (tabsC (M.tabs.take n)).length) _) by rw [hTL]; exact s4) (And.intro (show traws.length = (tabsC (M.tabs.take n)).length by rw [hTL]; exact t1) (And.intro t2 (And.intro t3 b4)))))
        have HR4 := Lib.hid hrow4
        have HNE := Lib.hid (And.intro (fun e => h1.sep.ro _ _ pB t2 e (hS1 pB (.inr rfl)) : rowBlock (.slice A1 m1 c1) ≠ some pB) (fun e => h1.sep.ro _ _ g t2 e hSg : rowBlock (.slice A1 m1 c1) ≠ some g))
        have HB4 := Lib.hid b4
        have HX := Lib.hid (And.intro h1.sep.lt (And.intro ro1 (And.intro ro21 (And.intro hS1 hk1))))
        clear b3 b4 h4 s3 s4 hrow4 t1 t2 t3 hTL h1 ro1 ro21 hS1 hk1 htr hSg hcs hmx hwx hn hx hrow hxl hq q4 q8 q11 q12 hq1
        rename_i y1 y2 y3 y4 y5
        clear y1 y2 y3 y4 y5
        go_wp2_with fail
        refine wp_region_z (fun w' => w'.cell? ⟨iB, 15, none⟩ = some (.slice A1 m1 c1) ∧ w'.cell? ⟨pB, 2, none⟩ = some (.slice (some ⟨g, o, none⟩) M.tabs.length bc) ∧ w'.cell? ⟨g, o + n * 4 + 1, none⟩ = some (.int .u32 q)) (fun j => j == 15 || j == 16 || j == 17) (by kernel_rfl) ?_ (fun hHeld => ?_)
        · first | exact KEY.out _ (Below.refl _ _).drew | exact KEY.out _ ((Below.refl _ _).drew.alloc (Nat.le_refl _) _) | exact KEY.out _ (((Below.refl _ _).drew.alloc (Nat.le_refl _) _).alloc (by simp) _) | exact ⟨c15, cq2, ck1⟩
        (refine wpZ_take (i := 0) (oi := ⟨some 49, .move (.tmp 4), 53, _, _, none⟩) (v := ?_) rfl (by kernel_rfl) (fun _ _ _ h => h) (by assumption) (Or.inl ⟨by rfl, ?_⟩) ?_; rotate_left 1; · ((intro w hSw; (try dsimp only at hSw); go_split_ands; go_simp) <;> (try with_reducible rfl)))
        try simp only [Act.put, List.setIfInBounds_toArray, List.set_cons_zero, List.set_cons_succ]
        (refine wpZ_take (i := 1) (oi := ⟨some 50, .move (.tmp 4), 53, _, _, none⟩) (v := ?_) rfl (by kernel_rfl) (fun _ _ _ h => h) (by assumption) (Or.inl ⟨by rfl, ?_⟩) ?_; rotate_left 1; · ((intro w hSw; (try dsimp only at hSw); go_split_ands; go_simp) <;> (try with_reducible rfl)))
        try simp only [Act.put, List.setIfInBounds_toArray, List.set_cons_zero, List.set_cons_succ]
        (refine wpZ_take (i := 2) (oi := ⟨some 51, .nilCheck (.tmp 50), 0, _, _, none⟩) (v := ?_) rfl (by kernel_rfl) (fun _ _ _ h => h) (by assumption) (Or.inl ⟨by rfl, ?_⟩) ?_; rotate_left 1; · ((intro w hSw; (try dsimp only at hSw); go_split_ands; go_simp) <;> (try with_reducible rfl)))
        try simp only [Act.put, List.setIfInBounds_toArray, List.set_cons_zero, List.set_cons_succ]
        (refine wpZ_take (i := 3) (oi := ⟨some 52, .fieldAddr 67 (.tmp 51) 3, 0, _, _, none⟩) (v := ?_) rfl (by kernel_rfl) (fun _ _ _ h => h) (by assumption) (Or.inl ⟨by rfl, ?_⟩) ?_; rotate_left 1; · ((intro w hSw; (try dsimp only at hSw); go_split_ands; go_simp) <;> (try with_reducible rfl)))
        try simp only [Act.put, List.setIfInBounds_toArray, List.set_cons_zero, List.set_cons_succ]
        (refine wpZ_take (i := 4) (oi := ⟨some 53, .load 64 (.tmp 52), 64, _, _, none⟩) (v := ?_) rfl (by kernel_rfl) (fun _ _ _ h => h) (by assumption) (Or.inl ⟨by rfl, ?_⟩) ?_; rotate_left 1; · ((intro w hSw; (try dsimp only at hSw); go_split_ands; go_simp) <;> (try with_reducible rfl)))
        try simp only [Act.put, List.setIfInBounds_toArray, List.set_cons_zero, List.set_cons_succ]
        (refine wpZ_take (i := 5) (oi := ⟨some 54, .fieldAddr 52 (.tmp 1) 2, 0, _, _, none⟩) (v := ?_) rfl (by kernel_rfl) (fun _ _ _ h => h) (by assumption) (Or.inl ⟨by rfl, ?_⟩) ?_; rotate_left 1; · ((intro w hSw; (try dsimp only at hSw); go_split_ands; go_simp) <;> (try with_reducible rfl)))
        try simp only [Act.put, List.setIfInBounds_toArray, List.set_cons_zero, List.set_cons_succ]
        (refine wpZ_take (i := 6) (oi := ⟨some 55, .load 47 (.tmp 54), 47, _, _, none⟩) (v := ?_) rfl (by kernel_rfl) (fun _ _ _ h => h) (by assumption) (Or.inl ⟨by rfl, ?_⟩) ?_; rotate_left 1; · ((intro w hSw; (try dsimp only at hSw); go_split_ands; go_simp) <;> (try with_reducible rfl)))
        try simp only [Act.put, List.setIfInBounds_toArray, List.set_cons_zero, List.set_cons_succ]
        (refine wpZ_take (i := 7) (oi := ⟨some 56, .move (.tmp 5), 3, _, _, none⟩) (v := ?_) rfl (by kernel_rfl) (fun _ _ _ h => h) (by assumption) (Or.inl ⟨by rfl, ?_⟩) ?_; rotate_left 1; · ((intro w hSw; (try dsimp only at hSw); go_split_ands; go_simp) <;> (try with_reducible rfl)))
        try simp only [Act.put, List.setIfInBounds_toArray, List.set_cons_zero, List.set_cons_succ]
        (refine wpZ_take (i := 8) (oi := ⟨some 57, .indexAddr 47 (.tmp 55) (.tmp 56), 0, _, _, none⟩) (v := ?_) rfl (by kernel_rfl) (fun _ _ _ h => h) (by assumption) (Or.inl ⟨by rfl, ?_⟩) ?_; rotate_left 1; · ((intro w hSw; (try dsimp only at hSw); go_split_ands; go_simp) <;> (try with_reducible rfl)))
        try simp only [Act.put, List.setIfInBounds_toArray, List.set_cons_zero, List.set_cons_succ]
        (refine wpZ_take (i := 9) (oi := ⟨some 58, .fieldAddr 83 (.tmp 57) 1, 0, _, _, none⟩) (v := ?_) rfl (by kernel_rfl) (fun _ _ _ h => h) (by assumption) (Or.inl ⟨by rfl, ?_⟩) ?_; rotate_left 1; · ((intro w hSw; (try dsimp only at hSw); go_split_ands; go_simp) <;> (try with_reducible rfl)))
        try simp only [Act.put, List.setIfInBounds_toArray, List.set_cons_zero, List.set_cons_succ]
        (refine wpZ_take (i := 10) (oi := ⟨some 59, .fieldAddr 42 (.tmp 58) 0, 0, _, _, none⟩) (v := ?_) rfl (by kernel_rfl) (fun _ _ _ h => h) (by assumption) (Or.inl ⟨by rfl, ?_⟩) ?_; rotate_left 1; · ((intro w hSw; (try dsimp only at hSw); go_split_ands; go_simp) <;> (try with_reducible rfl)))
        try simp only [Act.put, List.setIfInBounds_toArray, List.set_cons_zero, List.set_cons_succ]
        (refine wpZ_take (i := 11) (oi := ⟨some 60, .load 25 (.tmp 59), 25, _, _, none⟩) (v := ?_) rfl (by kernel_rfl) (fun _ _ _ h => h) (by assumption) (Or.inl ⟨by rfl, ?_⟩) ?_; rotate_left 1; · ((intro w hSw; (try dsimp only at hSw); go_split_ands; go_simp) <;> (try with_reducible rfl)))
        try simp only [Act.put, List.setIfInBounds_toArray, List.set_cons_zero, List.set_cons_succ]
        refine wpZ_one (i := 12) (oi := ⟨some 61, .makeSlice 57 (.tmp 60) (.tmp 60), 57, _, _, none⟩) rfl (by kernel_rfl) (fun K hK => ?_)
        go_simp
        refine hK.out _ _ (fun _ => by (first | exact KEY.out _ (Below.refl _ _).drew | exact KEY.out _ ((Below.refl _ _).drew.alloc (Nat.le_refl _) _) | exact KEY.out _ (((Below.refl _ _).drew.alloc (Nat.le_refl _) _).alloc (by simp) _) | exact ⟨c15, cq2, ck1⟩)) (fun hh => ?_)
        have hHeld := hh rfl
        clear hK K
        try simp only [Act.put, List.setIfInBounds_toArray, List.set_cons_zero, List.set_cons_succ]
        refine wpZ_one (i := 13) (oi := ⟨some 62, .buildSlice 64 1 #[(0, .tmp 61)], 64, _, _, none⟩) rfl (by kernel_rfl) (fun K hK => ?_)
        go_simp
        refine hK.out _ _ (fun _ => by (first | exact KEY.out _ (Below.refl _ _).drew | exact KEY.out _ ((Below.refl _ _).drew.alloc (Nat.le_refl _) _) | exact KEY.out _ (((Below.refl _ _).drew.alloc (Nat.le_refl _) _).alloc (by simp) _) | exact ⟨c15, cq2, ck1⟩)) (fun hh => ?_)
        have hHeld := hh rfl
        clear hK K
        try simp only [Act.put, List.setIfInBounds_toArray, List.set_cons_zero, List.set_cons_succ]
        refine wpZ_one (i := 14) (oi := ⟨some 63, .call { callee := .builtin .append, args := #[.tmp 53, .tmp 62], argTypes := #[64, 64] }, 64, _, _, none⟩) rfl (by kernel_rfl) (fun K hK => ?_)
        refine step_append_row (by rfl) _ _ _ (by rfl) 57 1 _ 24 Tryz.underlying64 infoRow rfl (by omega) (by omega) (.slice A1 m1 c1) traws (by rfl) (some ⟨wr.heap.size + 1, 0, none⟩) 1 1 [.slice (some ⟨wr.heap.size, 0, none⟩) q q] (by rfl) HR4.out RD.out HO1.out HBY.out ?_; intro B1 m2 c3 w5 hr1 hg1 ha1; obtain ⟨L5, h5, ro5, hk5, c15, z15⟩ := H4.out.1.table H4.out.2.1 H4.out.2.2.1 H4.out.2.2.2.1 H4.out.2.2.2.2.1 hr1.out hg1.out ha1.out; have cq2 : w5.cell? ⟨pB, 2, none⟩ = some (.slice (some ⟨g, o, none⟩) M.tabs.length bc) := hg1.out.cell (KEY.out _ HB4.out).2.1 (by simpa using fun e => HNE.out.1 e.symm); have ck1 : w5.cell? ⟨g, o + n * 4 + 1, none⟩ = some (.int .u32 q) := hg1.out.cell (KEY.out _ HB4.out).2.2 (by simpa using fun e => HNE.out.2 e.symm); have H5 := Lib.hid (And.intro h5 (And.intro ro5 hk5)); clear h5 ro5 hk5 hr1 hg1 ha1
        refine hK.out _ _ (fun _ => by (first | exact KEY.out _ (Below.refl _ _).drew | exact KEY.out _ ((Below.refl _ _).drew.alloc (Nat.le_refl _) _) | exact KEY.out _ (((Below.refl _ _).drew.alloc (Nat.le_refl _) _).alloc (by simp) _) | exact ⟨c15, cq2, ck1⟩)) (fun hh => ?_)
        have hHeld := hh rfl
        clear hK K
        try simp only [Act.put, List.setIfInBounds_toArray, List.set_cons_zero, List.set_cons_succ]
        refine wpZ_one (i := 15) (oi := ⟨some 64, .nilCheck (.tmp 49), 0, _, _, none⟩) rfl (by kernel_rfl) (fun K hK => ?_)
        go_simp
        refine hK.out _ _ (fun h => by simp at h) (fun _ => ?_)
        clear hK K
        try simp only [Act.put, List.setIfInBounds_toArray, List.set_cons_zero, List.set_cons_succ]
        refine wpZ_one (i := 16) (oi := ⟨some 65, .fieldAddr 67 (.tmp 64) 3, 0, _, _, none⟩) rfl (by kernel_rfl) (fun K hK => ?_)
        go_simp
        refine hK.out _ _ (fun h => by simp at h) (fun _ => ?_)
        clear hK K
        try simp only [Act.put, List.setIfInBounds_toArray, List.set_cons_zero, List.set_cons_succ]
        refine wpZ_one (i := 17) (oi := ⟨none, .store 64 (.tmp 65) (.tmp 63), 0, _, _, none⟩) rfl (by kernel_rfl) (fun K hK => ?_)
        go_simp
        refine hK.out _ _ (fun h => by simp at h) (fun _ => ?_)
        clear hK K
        try simp only [Act.put, List.setIfInBounds_toArray, List.set_cons_zero, List.set_cons_succ]
        refine wpZ_done (by kernel_rfl) ?_ _
        go_wp2
        go_roundw
        case rel =>
          have rt := (bro HB4.out HX.out.1).trans' H5.out.2.1
          exact ⟨n + 1, hlt, by go_num, ⟨bv, mv, .slice B1 m2 c3, gv, ev, dv, S1, L5, by rw [hTX.out]; exact H5.out.1, HX.out.2.1.trans rt HX.out.2.2.2.1, HX.out.2.2.2.1, fun q a b => (H5.out.2.2 q (fun k => by rintro rfl; exact a rfl) (by rintro rfl; exact a rfl) (by rintro rfl; exact a rfl)).trans (HX.out.2.2.2.2 q a b)⟩, HX.out.2.2.1.trans rt HX.out.2.2.2.1⟩
        case measure => (simp [intOf]; try omega)
      · obtain rfl : n = M.tabs.length := by omega
        have hd0 : decide ((M.tabs.length : Int) < (M.tabs.length : Int)) = false := decide_eq_false (by omega)
        rw [List.take_length] at h1
        have H4 := Lib.hid (show NwR w1 (fun b => S b ∨ b = pB) L u iB M mcl (ess.take 0) { blocks := [], mem := memC M, tabs := tabsC M.tabs, glo := [], els := [], das := [] } wr ∧ Ro (fun b => S b ∨ b = pB) w2 wr from ⟨⟨bv, mv, tv, gv, ev, dv, S1, L1, h1, ro1, hS1, hk1⟩, ro21⟩)
        clear h1 ro1 hS1 hk1 ro21 hlt hn
        go_wp2_with fail
        clear q2 q4 q8 q11 q12 hd0 H3
        generalize hwr0 : wr = wr0 at *
        clear hwr0
        go_loopw [6] (fun i wr => ∃ n : Nat, n ≤ M.codes.length ∧ i = .int .i64 n ∧ NwR w1 (fun b => S b ∨ b = pB) L u iB M mcl (ess.take n) { blocks := [], mem := memC M, tabs := tabsC M.tabs, glo := [], els := [], das := [] } wr ∧ Ro (fun b => S b ∨ b = pB) w2 wr) (fun i _ => M.codes.length - (intOf i).toNat)
        case atStart => exact ⟨0, Nat.zero_le _, rfl, H4.out⟩
        case round =>
          obtain ⟨n, hn, rfl, ⟨bv, mv, tv, gv, ev, dv, S1, L1, h1, ro1, hS1, hk1⟩, ro21⟩ := hrel
          obtain ⟨q2, q4, q8, q11, q12⟩ := HP.out wr ro21
          by_cases hlt : n < M.codes.length
          · have hx : M.codes[n]? = some M.codes[n] := List.getElem?_eq_getElem hlt
            have hes : ess[n]? = some (ess[n]'(by rw [HF.out.1.len]; exact hlt)) := List.getElem?_eq_getElem _
            have hok := HF.out.1.walk n _ _ hx hes
            generalize ess[n]'(by rw [HF.out.1.len]; exact hlt) = es at hes hok
            generalize M.codes[n] = cd at hx hok
            obtain ⟨clv, hclv, hcr1⟩ := h1.mod.codes
            rw [← HML.out] at hclv
            cases hclv
            obtain ⟨g, o, cs, rfl, hSg, _, ⟨lv, bv9, rfl, hlv, hbv⟩, hcs⟩ := hcr1.get n cd hx
            obtain ⟨lA, lc, rfl, _, _, _, _⟩ := id hlv
            obtain ⟨bA9, bc9, rfl, _, _, _, _⟩ := id hbv
            have k1 := hcs 1 _ rfl
            have hbody := (h1.wf.body cd (List.mem_of_getElem? hx)).1
            have hi : IntKind.i64.wrap ((n : Int) + 1) = (n : Int) + 1 := IntWalk.i64_in _ (by have := HF.out.1.codes; omega)
            have i1 : decide ((n : Int) < (M.codes.length : Int)) = true := decide_eq_true (by omega)
            have i2 : (n : Int) < (M.codes.length : Int) := by omega
            have HB := Lib.hid (rblocks_c cd.body es wr (.slice bA9 cd.body.length bc9) (hbv.mono (S := S1) (S' := fun b => b < wr.heap.size) (Ro.refl _ _) (fun b hb => h1.sep.lt b hb) (fun _ _ hh => hh.mono (Ro.refl _ _) (fun b hb => h1.sep.lt b hb))) hbody hok)
            have H1 := Lib.hid (And.intro h1 (And.intro ro1 (And.intro ro21 (And.intro hS1 hk1))))
            have HE := Lib.hid hes
            clear h1 ro1 ro21 hS1 hk1 hcr1 hSg hlv hbv hcs hbody hok hes hx hn q2 q4 q8 q12
            rename_i y1 y2 y3 y4 y5 y6 y7 y8 y9
            clear y1 y2 y3 y4 y5 y6 y7 y8 y9
            go_wp2_with fail
            refine HB.out.mono ?_
            rintro e w4 ⟨mr, rfl, hb4, hmr4, hmf⟩
            have h2 := H1.out.1.still hb4
            have h3 : Mkr w4 (fun b => S1 b ∨ b = mr) L1 u iB M mcl bv mv tv gv ev dv [] (ess.take n) { blocks := [], mem := memC M, tabs := tabsC M.tabs, glo := [], els := [], das := [] } := h2.move (h2.sep.more (fun k c b e1 e2 hb => by
              rcases hb with hb | rfl
              · exact h2.sep.ro k c b e1 e2 hb
              · have h9 := Ck.lt (H1.out.1.sep.holds k c e1) e2
                omega) (fun b hb => by
              rcases hb with hb | rfl
              · exact h2.sep.lt b hb
              · exact hmf.lt)) (Ro.refl _ _) (fun b hb => .inl hb) (fun _ _ => rfl)
            obtain ⟨raws, hraws, _, _⟩ := h3.bls
            have i13 : w4.cell? ⟨iB, 13, none⟩ = some bv := h3.cell 13 bv (h3.tail 0)
            have hrow := h3.sep.holds _ _ hraws
            obtain ⟨A1, m1, k1', rfl, _, _, hxl, _⟩ := Row.rd hrow
            have RD := Lib.hid (rd_cell1 w4 (.map (some mr)) 147)
            have H4' := Lib.hid (h3.still ((Below.refl _ _).alloc (Nat.le_refl _) (.cells #[.map (some mr)] 147)))
            have HR := Lib.hid hraws
            have HX := Lib.hid (And.intro hb4 hmf)
            have HBY := Lib.hid (show (raws.length + 1) * 8 ≤ 140737488355328 from by
              obtain ⟨raws', a1, a2, _⟩ := h3.bls
              rw [hraws] at a1
              cases a1
              rw [a2, List.length_take]
              have := HF.out.1.codes
              omega)
            have HO1 := Lib.hid (show ∀ u ∈ [Value.map (some mr)], u.oneCell' = true by simp [Value.oneCell'])
            clear h2 h3 hrow hraws hb4 hmr4 hmf hxl HB q11 k1
            rename_i z1 z2 z3 z4
            clear z1 z2 z3 z4
            go_wp2_with (at_builtin; refine wpList_append_row (by rfl) _ _ _ (by rfl) 147 1 (.map none) 8 Tryz.underlying63 infoMap rfl (by omega) (by omega) (.slice A1 m1 k1') raws (by rfl) (some ⟨w4.heap.size, 0, none⟩) 1 1 [.map (some mr)] (by rfl) (H4'.out.sep.holds _ _ HR.out) RD.out HO1.out HBY.out ?_; intro B1 m2 c3 w5 hr1 hg1 ha1; obtain ⟨L5, h5, ro5, hk5, c13, z13⟩ := H4'.out.block (b := mr) (es := es) (.inr rfl) (HX.out.2.move (heap_alloc_old _ _ HX.out.2.lt)) HR.out hr1.out hg1.out ha1.out; have H5 := Lib.hid (And.intro h5 (And.intro ro5 hk5)); clear h5 ro5 hk5 hr1 hg1 ha1)
            go_roundw
            case rel =>
              have b2 := HX.out.1
              have r1 : Ro S1 wr w4 := bro b2 H1.out.1.sep.lt
              have r2 : Ro S1 w4 (w4.alloc (.cells #[.map (some mr)] 147)) := ⟨⟨by simp, rfl, rfl⟩, fun b hb => heap_alloc_old w4 _ (Nat.lt_of_lt_of_le (H1.out.1.sep.lt b hb) b2.size)⟩
              have r3 : Ro S1 (w4.alloc (.cells #[.map (some mr)] 147)) (w5.setCell ⟨iB, 13, none⟩ (.slice B1 m2 c3)) := ⟨H5.out.2.1.1, fun b hb => H5.out.2.1.2 b (.inl hb)⟩
              have rt := (r1.trans' r2).trans' r3
              refine ⟨n + 1, hlt, by go_num, ⟨.slice B1 m2 c3, mv, tv, gv, ev, dv, (fun b => S1 b ∨ b = mr), L5, ?_, H1.out.2.1.trans rt H1.out.2.2.2.1, fun b hb => Or.inl (H1.out.2.2.2.1 b hb), fun q a b => (H5.out.2.2 q b (by rintro rfl; exact a rfl)).trans (H1.out.2.2.2.2 q a b)⟩, H1.out.2.2.1.trans rt H1.out.2.2.2.1⟩
              have := H5.out.1
              rw [List.take_add_one, HE.out]
              exact this
            case measure => (simp [intOf]; try omega)
          · obtain rfl : n = M.codes.length := by omega
            have hd0 : decide ((M.codes.length : Int) < (M.codes.length : Int)) = false := decide_eq_false (by omega)
            rw [← HF.out.1.len, List.take_length] at h1
            have H5 := Lib.hid (show NwR w1 (fun b => S b ∨ b = pB) L u iB M mcl ess { blocks := [], mem := memC M, tabs := tabsC M.tabs, glo := (M.globs.take 0).map valueC, els := [], das := [] } wr ∧ Ro (fun b => S b ∨ b = pB) w2 wr from ⟨⟨bv, mv, tv, gv, ev, dv, S1, L1, h1, ro1, hS1, hk1⟩, ro21⟩)
            clear h1 ro1 hS1 hk1 ro21 hlt hn
            go_wp2_with fail
            clear q2 q4 q8 q11 q12 hd0 H4
            generalize hwr1 : wr = wr1 at *
            clear hwr1
            go_loopw [9] (fun i wr => ∃ n : Nat, n ≤ M.globs.length ∧ i = .int .i64 n ∧ NwR w1 (fun b => S b ∨ b = pB) L u iB M mcl ess { blocks := [], mem := memC M, tabs := tabsC M.tabs, glo := (M.globs.take n).map valueC, els := [], das := [] } wr ∧ Ro (fun b => S b ∨ b = pB) w2 wr) (fun i _ => M.globs.length - (intOf i).toNat)
            case atStart => exact ⟨0, Nat.zero_le _, rfl, H5.out⟩
            case round =>
              obtain ⟨n, hn, rfl, ⟨bv, mv, tv, gv, ev, dv, S1, L1, h1, ro1, hS1, hk1⟩, ro21⟩ := hrel
              obtain ⟨q2, q4, q8, q11, q12⟩ := HP.out wr ro21
              by_cases hlt : n < M.globs.length
              · have hx : M.globs[n]? = some M.globs[n] := List.getElem?_eq_getElem hlt
                generalize M.globs[n] = x at hx
                obtain ⟨glv, hglv, hgr⟩ := h1.mod.globs
                rw [← HML.out] at hglv
                cases hglv
                obtain ⟨g, o, cs, rfl, hSg, _, ⟨ty, mu, iv, rfl, hiv⟩, hcs⟩ := hgr.get n x hx
                obtain ⟨iA, ic, rfl, _, _, _, _⟩ := id hiv
                have k2 := hcs 2 _ rfl
                have hi : IntKind.i64.wrap ((n : Int) + 1) = (n : Int) + 1 := IntWalk.i64_in _ (by have := HF.out.2.globs.1; omega)
                have i1 : decide ((n : Int) < (M.globs.length : Int)) = true := decide_eq_true (by omega)
                have i2 : (n : Int) < (M.globs.length : Int) := by omega
                have HV := Lib.hid (worth_c wr.drew S1 _ x hiv (HF.out.2.globs.2 x (List.mem_of_getElem? hx)))
                obtain ⟨A1, m1, c1, rfl, _, _, hxl, _⟩ := Row.rd (h1.sep.holds _ _ h1.glo)
                have hgx := Lib.hid (show ((M.globs.take (n + 1)).map valueC) = ((M.globs.take n).map valueC) ++ [valueC x] by rw [List.take_add_one, hx]; simp)
                have i16 := h1.cell 16 _ (h1.tail 3)
                have KEY := Lib.hid (show ∀ w', Below wr.heap.size wr w' → w'.cell? ⟨iB, 16, none⟩ = some (.slice A1 m1 c1) ∧ w'.cell? ⟨pB, 4, none⟩ = some (.slice (some ⟨g, o, none⟩) M.globs.length gc) ∧ w'.cell? ⟨g, o + n * 3 + 2, none⟩ = some (.slice iA x.length ic) from fun w' hb => ⟨(hb.cell (World.block_lt_of_cell? _ _ i16)).trans i16, (hb.cell (World.block_lt_of_cell? _ _ q4)).trans q4, (hb.cell (World.block_lt_of_cell? _ _ k2)).trans k2⟩)
                have HB4 := Lib.hid ((Below.refl wr.heap.size wr).drew.alloc (Nat.le_refl _) (.cells #[.int .u64 (valueC x)] 26))
                have H9 := Lib.hid (h1.still HB4.out)
                have HNE := Lib.hid (And.intro (fun e => h1.sep.ro _ _ pB h1.glo e (hS1 pB (.inr rfl)) : rowBlock (.slice A1 m1 c1) ≠ some pB) (fun e => h1.sep.ro _ _ g h1.glo e hSg : rowBlock (.slice A1 m1 c1) ≠ some g))
                have RD := Lib.hid (rd_cell1 wr.drew (.int .u64 (valueC x)) 26)
                have HX := Lib.hid (And.intro h1.sep.lt (And.intro ro1 (And.intro ro21 (And.intro hS1 hk1))))
                have HBY := Lib.hid (show ((ints .u64 ((M.globs.take n).map valueC)).length + 1) * 8 ≤ 140737488355328 from by rw [ints_len, List.length_map, List.length_take]; have := HF.out.2.globs.1; omega)
                have HO1 := Lib.hid (show ∀ z ∈ [Value.int .u64 (valueC x)], z.oneCell' = true by simp [Value.oneCell'])
                clear h1 ro1 ro21 hS1 hk1 hgr hSg hcs hiv hx hn hxl q2 q8 q11 q12
                rename_i y1 y2 y3 y4 y5 y6 y7
                clear y1 y2 y3 y4 y5 y6 y7
                go_wp2_with fail
                refine wp_region_z (fun w' => w'.cell? ⟨iB, 16, none⟩ = some (.slice A1 m1 c1) ∧ w'.cell? ⟨pB, 4, none⟩ = some (.slice (some ⟨g, o, none⟩) M.globs.length gc) ∧ w'.cell? ⟨g, o + n * 3 + 2, none⟩ = some (.slice iA x.length ic)) (fun j => j == 14 || j == 15 || j == 16) (by kernel_rfl) ?_ (fun hHeld => ?_)
                · first | exact KEY.out _ (Below.refl _ _).drew | exact KEY.out _ HB4.out | exact ⟨c16, cq4, ck2⟩
                (refine wpZ_take (i := 0) (oi := ⟨some 102, .move (.tmp 4), 53, _, _, none⟩) (v := ?_) rfl (by kernel_rfl) (fun _ _ _ h => h) (by assumption) (Or.inl ⟨by rfl, ?_⟩) ?_; rotate_left 1; · ((intro w hSw; (try dsimp only at hSw); go_split_ands; go_simp) <;> (try with_reducible rfl)))
                try simp only [Act.put, List.setIfInBounds_toArray, List.set_cons_zero, List.set_cons_succ]
                (refine wpZ_take (i := 1) (oi := ⟨some 103, .move (.tmp 4), 53, _, _, none⟩) (v := ?_) rfl (by kernel_rfl) (fun _ _ _ h => h) (by assumption) (Or.inl ⟨by rfl, ?_⟩) ?_; rotate_left 1; · ((intro w hSw; (try dsimp only at hSw); go_split_ands; go_simp) <;> (try with_reducible rfl)))
                try simp only [Act.put, List.setIfInBounds_toArray, List.set_cons_zero, List.set_cons_succ]
                (refine wpZ_take (i := 2) (oi := ⟨some 104, .nilCheck (.tmp 103), 0, _, _, none⟩) (v := ?_) rfl (by kernel_rfl) (fun _ _ _ h => h) (by assumption) (Or.inl ⟨by rfl, ?_⟩) ?_; rotate_left 1; · ((intro w hSw; (try dsimp only at hSw); go_split_ands; go_simp) <;> (try with_reducible rfl)))
                try simp only [Act.put, List.setIfInBounds_toArray, List.set_cons_zero, List.set_cons_succ]
                (refine wpZ_take (i := 3) (oi := ⟨some 105, .fieldAddr 67 (.tmp 104) 4, 0, _, _, none⟩) (v := ?_) rfl (by kernel_rfl) (fun _ _ _ h => h) (by assumption) (Or.inl ⟨by rfl, ?_⟩) ?_; rotate_left 1; · ((intro w hSw; (try dsimp only at hSw); go_split_ands; go_simp) <;> (try with_reducible rfl)))
                try simp only [Act.put, List.setIfInBounds_toArray, List.set_cons_zero, List.set_cons_succ]
                (refine wpZ_take (i := 4) (oi := ⟨some 106, .load 57 (.tmp 105), 57, _, _, none⟩) (v := ?_) rfl (by kernel_rfl) (fun _ _ _ h => h) (by assumption) (Or.inl ⟨by rfl, ?_⟩) ?_; rotate_left 1; · ((intro w hSw; (try dsimp only at hSw); go_split_ands; go_simp) <;> (try with_reducible rfl)))
                try simp only [Act.put, List.setIfInBounds_toArray, List.set_cons_zero, List.set_cons_succ]
                (refine wpZ_take (i := 5) (oi := ⟨some 107, .fieldAddr 52 (.tmp 1) 4, 0, _, _, none⟩) (v := ?_) rfl (by kernel_rfl) (fun _ _ _ h => h) (by assumption) (Or.inl ⟨by rfl, ?_⟩) ?_; rotate_left 1; · ((intro w hSw; (try dsimp only at hSw); go_split_ands; go_simp) <;> (try with_reducible rfl)))
                try simp only [Act.put, List.setIfInBounds_toArray, List.set_cons_zero, List.set_cons_succ]
                (refine wpZ_take (i := 6) (oi := ⟨some 108, .load 48 (.tmp 107), 48, _, _, none⟩) (v := ?_) rfl (by kernel_rfl) (fun _ _ _ h => h) (by assumption) (Or.inl ⟨by rfl, ?_⟩) ?_; rotate_left 1; · ((intro w hSw; (try dsimp only at hSw); go_split_ands; go_simp) <;> (try with_reducible rfl)))
                try simp only [Act.put, List.setIfInBounds_toArray, List.set_cons_zero, List.set_cons_succ]
                (refine wpZ_take (i := 7) (oi := ⟨some 109, .move (.tmp 9), 3, _, _, none⟩) (v := ?_) rfl (by kernel_rfl) (fun _ _ _ h => h) (by assumption) (Or.inl ⟨by rfl, ?_⟩) ?_; rotate_left 1; · ((intro w hSw; (try dsimp only at hSw); go_split_ands; go_simp) <;> (try with_reducible rfl)))
                try simp only [Act.put, List.setIfInBounds_toArray, List.set_cons_zero, List.set_cons_succ]
                (refine wpZ_take (i := 8) (oi := ⟨some 110, .indexAddr 48 (.tmp 108) (.tmp 109), 0, _, _, none⟩) (v := ?_) rfl (by kernel_rfl) (fun _ _ _ h => h) (by assumption) (Or.inl ⟨by rfl, ?_⟩) ?_; rotate_left 1; · ((intro w hSw; (try dsimp only at hSw); go_split_ands; go_simp) <;> (try with_reducible rfl)))
                try simp only [Act.put, List.setIfInBounds_toArray, List.set_cons_zero, List.set_cons_succ]
                (refine wpZ_take (i := 9) (oi := ⟨some 111, .fieldAddr 121 (.tmp 110) 2, 0, _, _, none⟩) (v := ?_) rfl (by kernel_rfl) (fun _ _ _ h => h) (by assumption) (Or.inl ⟨by rfl, ?_⟩) ?_; rotate_left 1; · ((intro w hSw; (try dsimp only at hSw); go_split_ands; go_simp) <;> (try with_reducible rfl)))
                try simp only [Act.put, List.setIfInBounds_toArray, List.set_cons_zero, List.set_cons_succ]
                (refine wpZ_take (i := 10) (oi := ⟨some 112, .load 24 (.tmp 111), 24, _, _, none⟩) (v := ?_) rfl (by kernel_rfl) (fun _ _ _ h => h) (by assumption) (Or.inl ⟨by rfl, ?_⟩) ?_; rotate_left 1; · ((intro w hSw; (try dsimp only at hSw); go_split_ands; go_simp) <;> (try with_reducible rfl)))
                try simp only [Act.put, List.setIfInBounds_toArray, List.set_cons_zero, List.set_cons_succ]
                refine wpZ_one (i := 11) (oi := ⟨some 113, .call { callee := .value (.func 35), args := #[.tmp 112], argTypes := #[24] }, 26, _, _, none⟩) rfl (by kernel_rfl) (fun K hK => ?_)
                go_simp; refine HV.out.mono ?_; rintro e w3 ⟨rfl, rfl⟩; go_simp
                refine hK.out _ _ (fun _ => by (first | exact KEY.out _ (Below.refl _ _).drew | exact KEY.out _ HB4.out | exact ⟨c16, cq4, ck2⟩)) (fun hh => ?_)
                have hHeld := hh rfl
                clear hK K
                try simp only [Act.put, List.setIfInBounds_toArray, List.set_cons_zero, List.set_cons_succ]
                refine wpZ_one (i := 12) (oi := ⟨some 114, .buildSlice 57 1 #[(0, .tmp 113)], 57, _, _, none⟩) rfl (by kernel_rfl) (fun K hK => ?_)
                go_simp
                refine hK.out _ _ (fun _ => by (first | exact KEY.out _ (Below.refl _ _).drew | exact KEY.out _ HB4.out | exact ⟨c16, cq4, ck2⟩)) (fun hh => ?_)
                have hHeld := hh rfl
                clear hK K
                try simp only [Act.put, List.setIfInBounds_toArray, List.set_cons_zero, List.set_cons_succ]
                refine wpZ_one (i := 13) (oi := ⟨some 115, .call { callee := .builtin .append, args := #[.tmp 106, .tmp 114], argTypes := #[57, 57] }, 57, _, _, none⟩) rfl (by kernel_rfl) (fun K hK => ?_)
                refine step_append_row (by rfl) _ _ _ (by rfl) 26 1 _ 8 Tryz.underlying57 infoU64 rfl (by omega) (by omega) (.slice A1 m1 c1) (ints .u64 ((M.globs.take n).map valueC)) (by rfl) (some ⟨wr.heap.size, 0, none⟩) 1 1 [.int .u64 (valueC x)] (by rfl) (H9.out.sep.holds _ _ H9.out.glo) RD.out HO1.out HBY.out ?_; intro B1 m2 c3 w5 hr1 hg1 ha1; obtain ⟨L5', h5, ro5, hk5, c16, z16⟩ := H9.out.glob (x := valueC x) (by have := hr1.out; rwa [show ints .u64 ((M.globs.take n).map valueC) ++ [.int .u64 (valueC x)] = ints .u64 ((M.globs.take n).map valueC ++ [valueC x]) by simp [ints]] at this) hg1.out ha1.out; have cq4 : w5.cell? ⟨pB, 4, none⟩ = some (.slice (some ⟨g, o, none⟩) M.globs.length gc) := hg1.out.cell (KEY.out _ HB4.out).2.1 (by simpa using fun e => HNE.out.1 e.symm); have ck2 : w5.cell? ⟨g, o + n * 3 + 2, none⟩ = some (.slice iA x.length ic) := hg1.out.cell (KEY.out _ HB4.out).2.2 (by simpa using fun e => HNE.out.2 e.symm); have H11 := Lib.hid (And.intro h5 (And.intro ro5 hk5)); clear h5 ro5 hk5 hr1 hg1 ha1
                refine hK.out _ _ (fun _ => by (first | exact KEY.out _ (Below.refl _ _).drew | exact KEY.out _ HB4.out | exact ⟨c16, cq4, ck2⟩)) (fun hh => ?_)
                have hHeld := hh rfl
                clear hK K
                try simp only [Act.put, List.setIfInBounds_toArray, List.set_cons_zero, List.set_cons_succ]
                refine wpZ_one (i := 14) (oi := ⟨some 116, .nilCheck (.tmp 102), 0, _, _, none⟩) rfl (by kernel_rfl) (fun K hK => ?_)
                go_simp
                refine hK.out _ _ (fun h => by simp at h) (fun _ => ?_)
                clear hK K
                try simp only [Act.put, List.setIfInBounds_toArray, List.set_cons_zero, List.set_cons_succ]
                refine wpZ_one (i := 15) (oi := ⟨some 117, .fieldAddr 67 (.tmp 116) 4, 0, _, _, none⟩) rfl (by kernel_rfl) (fun K hK => ?_)
                go_simp
                refine hK.out _ _ (fun h => by simp at h) (fun _ => ?_)
                clear hK K
                try simp only [Act.put, List.setIfInBounds_toArray, List.set_cons_zero, List.set_cons_succ]
                refine wpZ_one (i := 16) (oi := ⟨none, .store 57 (.tmp 117) (.tmp 115), 0, _, _, none⟩) rfl (by kernel_rfl) (fun K hK => ?_)
                go_simp
                refine hK.out _ _ (fun h => by simp at h) (fun _ => ?_)
                clear hK K
                try simp only [Act.put, List.setIfInBounds_toArray, List.set_cons_zero, List.set_cons_succ]
                refine wpZ_done (by kernel_rfl) ?_ _
                go_wp2
                go_roundw
                case rel =>
                  have rt := (bro HB4.out HX.out.1).trans' H11.out.2.1
                  exact ⟨n + 1, hlt, by go_num, ⟨bv, mv, tv, .slice B1 m2 c3, ev, dv, S1, L5', by rw [hgx.out]; exact H11.out.1, HX.out.2.1.trans rt HX.out.2.2.2.1, HX.out.2.2.2.1, fun q a b => (H11.out.2.2 q (by rintro rfl; exact a rfl) (by rintro rfl; exact a rfl)).trans (HX.out.2.2.2.2 q a b)⟩, HX.out.2.2.1.trans rt HX.out.2.2.2.1⟩
                case measure => (simp [intOf]; try omega)
              · obtain rfl : n = M.globs.length := by omega
                have hd0 : decide ((M.globs.length : Int) < (M.globs.length : Int)) = false := decide_eq_false (by omega)
                rw [List.take_length] at h1
                have i17 := h1.cell 17 _ (h1.tail 4)
                have i18 := h1.cell 18 _ (h1.tail 5)
                have z := h1.sep.frozen h1.ins
                have z17 := z 17
                have z18 := z 18
                have he : M.elems.length ≤ 1000000 := by have := HF.out.2.elems.1; omega
                have hd : M.datas.length ≤ 1000000 := by have := HF.out.2.datas.1; omega
                have mkE := fun w => run_mk w 65 4 (.bool false) 1 Tryz.underlying65 infoBool rfl (by omega) M.elems.length he .i64 .i64
                have mkD := fun w => run_mk w 65 4 (.bool false) 1 Tryz.underlying65 infoBool rfl (by omega) M.datas.length hd .i64 .i64
                have HSG := Lib.hid (fun ea => (h1.still (Below.refl wr.heap.size wr).drew).segs M.elems.length M.datas.length he hd ea)
                have HX := Lib.hid (And.intro h1.sep.lt (And.intro ro1 (And.intro ro21 (And.intro hS1 hk1))))
                have KEY := Lib.hid (show ∀ w', Below wr.heap.size wr w' → w'.cell? ⟨pB, 8, none⟩ = some (.slice eA M.elems.length ec) ∧ w'.cell? ⟨pB, 12, none⟩ = some (.slice dA M.datas.length dc) from fun w' hb => ⟨(hb.cell (World.block_lt_of_cell? _ _ q8)).trans q8, (hb.cell (World.block_lt_of_cell? _ _ q12)).trans q12⟩)
                have lib : iB < wr.heap.size := World.block_lt_of_cell? _ _ i17
                have lib1 : iB ≠ wr.heap.size := by omega
                have lib2 : iB ≠ wr.heap.size + 1 := by omega
                have hne : pB ≠ iB := fun e => h1.sep.ro _ _ iB h1.ins rfl (by rw [← e]; exact hS1 pB (.inr rfl))
                have KEYS := Lib.hid (show ∀ v w', Below (wr.setCell ⟨iB, 17, none⟩ v).heap.size (wr.setCell ⟨iB, 17, none⟩ v) w' → w'.cell? ⟨pB, 8, none⟩ = some (.slice eA M.elems.length ec) ∧ w'.cell? ⟨pB, 12, none⟩ = some (.slice dA M.datas.length dc) from fun v w' hb => by
                  have a8 : (wr.setCell ⟨iB, 17, none⟩ v).cell? ⟨pB, 8, none⟩ = some (.slice eA M.elems.length ec) := cell_away q8 (Ne.symm hne)
                  have a12 : (wr.setCell ⟨iB, 17, none⟩ v).cell? ⟨pB, 12, none⟩ = some (.slice dA M.datas.length dc) := cell_away q12 (Ne.symm hne)
                  exact ⟨(hb.cell (World.block_lt_of_cell? _ _ a8)).trans a8, (hb.cell (World.block_lt_of_cell? _ _ a12)).trans a12⟩)
                have HXT := Lib.hid (show ∃ L', Mkr ((((wr.setCell ⟨iB, 17, none⟩ (.slice (some ⟨wr.heap.size, 0, none⟩) M.elems.length M.elems.length)).setCell ⟨iB, 18, none⟩ (.slice (some ⟨wr.heap.size + 1, 0, none⟩) M.datas.length M.datas.length)).alloc (.cells (Array.replicate M.elems.length (.bool false)) 4)).alloc (.cells (Array.replicate M.datas.length (.bool false)) 4)).drew S1 L' u iB M mcl bv mv tv gv (.slice (some ⟨wr.heap.size, 0, none⟩) M.elems.length M.elems.length) (.slice (some ⟨wr.heap.size + 1, 0, none⟩) M.datas.length M.datas.length) [] ess { blocks := [], mem := memC M, tabs := tabsC M.tabs, glo := M.globs.map valueC, els := List.replicate M.elems.length false, das := List.replicate M.datas.length false } ∧ Ro S1 wr ((((wr.setCell ⟨iB, 17, none⟩ (.slice (some ⟨wr.heap.size, 0, none⟩) M.elems.length M.elems.length)).setCell ⟨iB, 18, none⟩ (.slice (some ⟨wr.heap.size + 1, 0, none⟩) M.datas.length M.datas.length)).alloc (.cells (Array.replicate M.elems.length (.bool false)) 4)).alloc (.cells (Array.replicate M.datas.length (.bool false)) 4)).drew ∧ ∀ q, q ≠ .els u → q ≠ .das u → q ≠ .ins u → L' q = L1 q from by
                  have := HSG.out true _ _ _ (.inl ⟨rfl, rfl, rfl, rfl⟩)
                  rw [show wr.drew.heap.size = wr.heap.size from rfl, seg_world _ _ _ _ _ _ lib] at this
                  exact this)
                have HXF := Lib.hid (show ∃ L', Mkr ((((wr.setCell ⟨iB, 17, none⟩ (.slice (some ⟨wr.heap.size + 1, 0, none⟩) M.elems.length M.elems.length)).setCell ⟨iB, 18, none⟩ (.slice (some ⟨wr.heap.size, 0, none⟩) M.datas.length M.datas.length)).alloc (.cells (Array.replicate M.datas.length (.bool false)) 4)).alloc (.cells (Array.replicate M.elems.length (.bool false)) 4)).drew S1 L' u iB M mcl bv mv tv gv (.slice (some ⟨wr.heap.size + 1, 0, none⟩) M.elems.length M.elems.length) (.slice (some ⟨wr.heap.size, 0, none⟩) M.datas.length M.datas.length) [] ess { blocks := [], mem := memC M, tabs := tabsC M.tabs, glo := M.globs.map valueC, els := List.replicate M.elems.length false, das := List.replicate M.datas.length false } ∧ Ro S1 wr ((((wr.setCell ⟨iB, 17, none⟩ (.slice (some ⟨wr.heap.size + 1, 0, none⟩) M.elems.length M.elems.length)).setCell ⟨iB, 18, none⟩ (.slice (some ⟨wr.heap.size, 0, none⟩) M.datas.length M.datas.length)).alloc (.cells (Array.replicate M.datas.length (.bool false)) 4)).alloc (.cells (Array.replicate M.elems.length (.bool false)) 4)).drew ∧ ∀ q, q ≠ .els u → q ≠ .das u → q ≠ .ins u → L' q = L1 q from by
                  have := HSG.out false _ _ _ (.inr ⟨rfl, rfl, rfl, rfl⟩)
                  rw [show wr.drew.heap.size = wr.heap.size from rfl, seg_world _ _ _ _ _ _ lib] at this
                  exact this)
                have HLIB := Lib.hid (And.intro lib (And.intro lib1 lib2))
                clear h1 ro1 ro21 hS1 hk1 z hlt hn he hd q2 q11
                go_wp2_with fail
                refine wp_region_z (fun w' => w'.cell? ⟨pB, 8, none⟩ = some (.slice eA M.elems.length ec) ∧ w'.cell? ⟨pB, 12, none⟩ = some (.slice dA M.datas.length dc)) (fun j => j == 13 || j == 14 || j == 15) (by kernel_rfl) ?_ (fun hHeld => ?_)
                · first | exact KEY.out _ (Below.refl _ _).drew | exact KEY.out _ ((Below.refl _ _).drew.alloc (Nat.le_refl _) _) | exact KEY.out _ (((Below.refl _ _).drew.alloc (Nat.le_refl _) _).alloc (by simp) _) | exact KEYS.out _ _ (((Below.refl _ _).alloc (Nat.le_refl _) _).drew) | exact KEYS.out _ _ ((((Below.refl _ _).alloc (Nat.le_refl _) _).alloc (by simp) _).drew)
                (refine wpZ_take (i := 0) (oi := ⟨some 118, .move (.tmp 4), 53, _, _, none⟩) (v := ?_) rfl (by kernel_rfl) (fun _ _ _ h => h) (by assumption) (Or.inl ⟨by rfl, ?_⟩) ?_; rotate_left 1; · ((intro w hSw; (try dsimp only at hSw); go_split_ands; go_simp) <;> (try with_reducible rfl)))
                try simp only [Act.put, List.setIfInBounds_toArray, List.set_cons_zero, List.set_cons_succ]
                (refine wpZ_take (i := 1) (oi := ⟨some 119, .move (.tmp 4), 53, _, _, none⟩) (v := ?_) rfl (by kernel_rfl) (fun _ _ _ h => h) (by assumption) (Or.inl ⟨by rfl, ?_⟩) ?_; rotate_left 1; · ((intro w hSw; (try dsimp only at hSw); go_split_ands; go_simp) <;> (try with_reducible rfl)))
                try simp only [Act.put, List.setIfInBounds_toArray, List.set_cons_zero, List.set_cons_succ]
                (refine wpZ_take (i := 2) (oi := ⟨some 120, .fieldAddr 52 (.tmp 1) 8, 0, _, _, none⟩) (v := ?_) rfl (by kernel_rfl) (fun _ _ _ h => h) (by assumption) (Or.inl ⟨by rfl, ?_⟩) ?_; rotate_left 1; · ((intro w hSw; (try dsimp only at hSw); go_split_ands; go_simp) <;> (try with_reducible rfl)))
                try simp only [Act.put, List.setIfInBounds_toArray, List.set_cons_zero, List.set_cons_succ]
                (refine wpZ_take (i := 3) (oi := ⟨some 121, .load 50 (.tmp 120), 50, _, _, none⟩) (v := ?_) rfl (by kernel_rfl) (fun _ _ _ h => h) (by assumption) (Or.inl ⟨by rfl, ?_⟩) ?_; rotate_left 1; · ((intro w hSw; (try dsimp only at hSw); go_split_ands; go_simp) <;> (try with_reducible rfl)))
                try simp only [Act.put, List.setIfInBounds_toArray, List.set_cons_zero, List.set_cons_succ]
                (refine wpZ_take (i := 4) (oi := ⟨some 122, .call { callee := .builtin .len, args := #[.tmp 121], argTypes := #[50] }, 3, _, _, none⟩) (v := ?_) rfl (by kernel_rfl) (fun _ _ _ h => h) (by assumption) (Or.inl ⟨by rfl, ?_⟩) ?_; rotate_left 1; · ((intro w hSw; (try dsimp only at hSw); go_split_ands; go_simp) <;> (try with_reducible rfl)))
                try simp only [Act.put, List.setIfInBounds_toArray, List.set_cons_zero, List.set_cons_succ]
                (refine wpZ_take (i := 6) (oi := ⟨some 124, .fieldAddr 52 (.tmp 1) 12, 0, _, _, none⟩) (v := ?_) rfl (by kernel_rfl) (fun _ _ _ h => h) (by assumption) (Or.inl ⟨by rfl, ?_⟩) ?_; rotate_left 1; · ((intro w hSw; (try dsimp only at hSw); go_split_ands; go_simp) <;> (try with_reducible rfl)))
                try simp only [Act.put, List.setIfInBounds_toArray, List.set_cons_zero, List.set_cons_succ]
                (refine wpZ_take (i := 7) (oi := ⟨some 125, .load 46 (.tmp 124), 46, _, _, none⟩) (v := ?_) rfl (by kernel_rfl) (fun _ _ _ h => h) (by assumption) (Or.inl ⟨by rfl, ?_⟩) ?_; rotate_left 1; · ((intro w hSw; (try dsimp only at hSw); go_split_ands; go_simp) <;> (try with_reducible rfl)))
                try simp only [Act.put, List.setIfInBounds_toArray, List.set_cons_zero, List.set_cons_succ]
                (refine wpZ_take (i := 8) (oi := ⟨some 126, .call { callee := .builtin .len, args := #[.tmp 125], argTypes := #[46] }, 3, _, _, none⟩) (v := ?_) rfl (by kernel_rfl) (fun _ _ _ h => h) (by assumption) (Or.inl ⟨by rfl, ?_⟩) ?_; rotate_left 1; · ((intro w hSw; (try dsimp only at hSw); go_split_ands; go_simp) <;> (try with_reducible rfl)))
                try simp only [Act.put, List.setIfInBounds_toArray, List.set_cons_zero, List.set_cons_succ]
                refine wpZ_two (i := 5) (j := 9) (oi := ⟨some 123, .makeSlice 65 (.tmp 122) (.tmp 122), 65, _, _, none⟩) (oj := ⟨some 127, .makeSlice 65 (.tmp 126) (.tmp 126), 65, _, _, none⟩) rfl rfl (by kernel_rfl) (fun K hK => ?_) (fun K hK => ?_)
                ·
                  go_simp
                  refine hK.out _ _ (fun _ => by (first | exact KEY.out _ (Below.refl _ _).drew | exact KEY.out _ ((Below.refl _ _).drew.alloc (Nat.le_refl _) _) | exact KEY.out _ (((Below.refl _ _).drew.alloc (Nat.le_refl _) _).alloc (by simp) _) | exact KEYS.out _ _ (((Below.refl _ _).alloc (Nat.le_refl _) _).drew) | exact KEYS.out _ _ ((((Below.refl _ _).alloc (Nat.le_refl _) _).alloc (by simp) _).drew))) (fun hh => ?_)
                  have hHeld := hh rfl
                  clear hK K
                  try simp only [Act.put, List.setIfInBounds_toArray, List.set_cons_zero, List.set_cons_succ]
                  (refine wpZ_take (i := 10) (oi := ⟨some 128, .nilCheck (.tmp 118), 0, _, _, none⟩) (v := ?_) rfl (by kernel_rfl) (fun _ _ _ h => h) (by assumption) (Or.inl ⟨by rfl, ?_⟩) ?_; rotate_left 1; · ((intro w hSw; (try dsimp only at hSw); go_split_ands; go_simp) <;> (try with_reducible rfl)))
                  try simp only [Act.put, List.setIfInBounds_toArray, List.set_cons_zero, List.set_cons_succ]
                  (refine wpZ_take (i := 11) (oi := ⟨some 129, .fieldAddr 67 (.tmp 128) 5, 0, _, _, none⟩) (v := ?_) rfl (by kernel_rfl) (fun _ _ _ h => h) (by assumption) (Or.inl ⟨by rfl, ?_⟩) ?_; rotate_left 1; · ((intro w hSw; (try dsimp only at hSw); go_split_ands; go_simp) <;> (try with_reducible rfl)))
                  try simp only [Act.put, List.setIfInBounds_toArray, List.set_cons_zero, List.set_cons_succ]
                  refine wpZ_two (i := 9) (j := 12) (oi := ⟨some 127, .makeSlice 65 (.tmp 126) (.tmp 126), 65, _, _, none⟩) (oj := ⟨none, .store 65 (.tmp 129) (.tmp 123), 0, _, _, none⟩) rfl rfl (by kernel_rfl) (fun K hK => ?_) (fun K hK => ?_)
                  ·
                    go_simp
                    refine hK.out _ _ (fun _ => by (first | exact KEY.out _ (Below.refl _ _).drew | exact KEY.out _ ((Below.refl _ _).drew.alloc (Nat.le_refl _) _) | exact KEY.out _ (((Below.refl _ _).drew.alloc (Nat.le_refl _) _).alloc (by simp) _) | exact KEYS.out _ _ (((Below.refl _ _).alloc (Nat.le_refl _) _).drew) | exact KEYS.out _ _ ((((Below.refl _ _).alloc (Nat.le_refl _) _).alloc (by simp) _).drew))) (fun hh => ?_)
                    have hHeld := hh rfl
                    clear hK K
                    try simp only [Act.put, List.setIfInBounds_toArray, List.set_cons_zero, List.set_cons_succ]
                    refine wpZ_one (i := 12) (oi := ⟨none, .store 65 (.tmp 129) (.tmp 123), 0, _, _, none⟩) rfl (by kernel_rfl) (fun K hK => ?_)
                    go_simp
                    refine hK.out _ _ (fun _ => by (first | exact KEY.out _ (Below.refl _ _).drew | exact KEY.out _ ((Below.refl _ _).drew.alloc (Nat.le_refl _) _) | exact KEY.out _ (((Below.refl _ _).drew.alloc (Nat.le_refl _) _).alloc (by simp) _) | exact KEYS.out _ _ (((Below.refl _ _).alloc (Nat.le_refl _) _).drew) | exact KEYS.out _ _ ((((Below.refl _ _).alloc (Nat.le_refl _) _).alloc (by simp) _).drew))) (fun hh => ?_)
                    have hHeld := hh rfl
                    clear hK K
                    try simp only [Act.put, List.setIfInBounds_toArray, List.set_cons_zero, List.set_cons_succ]
                    refine wpZ_one (i := 13) (oi := ⟨some 130, .nilCheck (.tmp 119), 0, _, _, none⟩) rfl (by kernel_rfl) (fun K hK => ?_)
                    go_simp
                    refine hK.out _ _ (fun h => by simp at h) (fun _ => ?_)
                    clear hK K
                    try simp only [Act.put, List.setIfInBounds_toArray, List.set_cons_zero, List.set_cons_succ]
                    refine wpZ_one (i := 14) (oi := ⟨some 131, .fieldAddr 67 (.tmp 130) 6, 0, _, _, none⟩) rfl (by kernel_rfl) (fun K hK => ?_)
                    go_simp
                    refine hK.out _ _ (fun h => by simp at h) (fun _ => ?_)
                    clear hK K
                    try simp only [Act.put, List.setIfInBounds_toArray, List.set_cons_zero, List.set_cons_succ]
                    refine wpZ_one (i := 15) (oi := ⟨none, .store 65 (.tmp 131) (.tmp 127), 0, _, _, none⟩) rfl (by kernel_rfl) (fun K hK => ?_)
                    go_simp
                    refine hK.out _ _ (fun h => by simp at h) (fun _ => ?_)
                    clear hK K
                    try simp only [Act.put, List.setIfInBounds_toArray, List.set_cons_zero, List.set_cons_succ]
                    refine wpZ_done (by kernel_rfl) ?_ _
                    refine all_worldC (fun W' => ∃ e1 d1 L', Mkr W' S1 L' u iB M mcl bv mv tv gv e1 d1 [] ess { blocks := [], mem := memC M, tabs := tabsC M.tabs, glo := M.globs.map valueC, els := List.replicate M.elems.length false, das := List.replicate M.datas.length false } ∧ Ro S1 wr W' ∧ ∀ q, q ≠ .els u → q ≠ .das u → q ≠ .ins u → L' q = L1 q) (by first | exact ⟨_, _, HXT.out⟩ | exact ⟨_, _, HXF.out⟩) ?_; rintro w9 ⟨e1, d1, L9, h9, ro9, hk9⟩; have H9 := Lib.hid (And.intro h9 (And.intro ro9 hk9)); clear h9 ro9 hk9 hHeld; go_wp2; go_ret2; rw [HML.out]; obtain ⟨S10, L10, hsm, hS10, hk10⟩ := H9.out.1.done; exact ⟨iB, S10, L10, rfl, hsm, (HRO.out.trans HX.out.2.1 (fun b hb => .inl hb)).trans H9.out.2.1 (fun b hb => HX.out.2.2.2.1 b (.inl hb)), fun b hb => hS10 b (HX.out.2.2.2.1 b (.inl hb)), fun q a b => (hk10 q b (by rintro rfl; exact a rfl)).trans ((H9.out.2.2 q (by rintro rfl; exact a rfl) (by rintro rfl; exact a rfl) (by rintro rfl; exact a rfl)).trans (HX.out.2.2.2.2 q a b))⟩
                  ·
                    go_simp
                    refine hK.out _ _ (fun _ => by (first | exact KEY.out _ (Below.refl _ _).drew | exact KEY.out _ ((Below.refl _ _).drew.alloc (Nat.le_refl _) _) | exact KEY.out _ (((Below.refl _ _).drew.alloc (Nat.le_refl _) _).alloc (by simp) _) | exact KEYS.out _ _ (((Below.refl _ _).alloc (Nat.le_refl _) _).drew) | exact KEYS.out _ _ ((((Below.refl _ _).alloc (Nat.le_refl _) _).alloc (by simp) _).drew))) (fun hh => ?_)
                    have hHeld := hh rfl
                    clear hK K
                    try simp only [Act.put, List.setIfInBounds_toArray, List.set_cons_zero, List.set_cons_succ]
                    refine wpZ_one (i := 9) (oi := ⟨some 127, .makeSlice 65 (.tmp 126) (.tmp 126), 65, _, _, none⟩) rfl (by kernel_rfl) (fun K hK => ?_)
                    go_simp
                    refine hK.out _ _ (fun _ => by (first | exact KEY.out _ (Below.refl _ _).drew | exact KEY.out _ ((Below.refl _ _).drew.alloc (Nat.le_refl _) _) | exact KEY.out _ (((Below.refl _ _).drew.alloc (Nat.le_refl _) _).alloc (by simp) _) | exact KEYS.out _ _ (((Below.refl _ _).alloc (Nat.le_refl _) _).drew) | exact KEYS.out _ _ ((((Below.refl _ _).alloc (Nat.le_refl _) _).alloc (by simp) _).drew))) (fun hh => ?_)
                    have hHeld := hh rfl
                    clear hK K
                    try simp only [Act.put, List.setIfInBounds_toArray, List.set_cons_zero, List.set_cons_succ]
                    refine wpZ_one (i := 13) (oi := ⟨some 130, .nilCheck (.tmp 119), 0, _, _, none⟩) rfl (by kernel_rfl) (fun K hK => ?_)
                    go_simp
                    refine hK.out _ _ (fun h => by simp at h) (fun _ => ?_)
                    clear hK K
                    try simp only [Act.put, List.setIfInBounds_toArray, List.set_cons_zero, List.set_cons_succ]
                    refine wpZ_one (i := 14) (oi := ⟨some 131, .fieldAddr 67 (.tmp 130) 6, 0, _, _, none⟩) rfl (by kernel_rfl) (fun K hK => ?_)
                    go_simp
                    refine hK.out _ _ (fun h => by simp at h) (fun _ => ?_)
                    clear hK K
                    try simp only [Act.put, List.setIfInBounds_toArray, List.set_cons_zero, List.set_cons_succ]
                    refine wpZ_one (i := 15) (oi := ⟨none, .store 65 (.tmp 131) (.tmp 127), 0, _, _, none⟩) rfl (by kernel_rfl) (fun K hK => ?_)
                    go_simp
                    refine hK.out _ _ (fun h => by simp at h) (fun _ => ?_)
                    clear hK K
                    try simp only [Act.put, List.setIfInBounds_toArray, List.set_cons_zero, List.set_cons_succ]
                    refine wpZ_done (by kernel_rfl) ?_ _
                    refine all_worldC (fun W' => ∃ e1 d1 L', Mkr W' S1 L' u iB M mcl bv mv tv gv e1 d1 [] ess { blocks := [], mem := memC M, tabs := tabsC M.tabs, glo := M.globs.map valueC, els := List.replicate M.elems.length false, das := List.replicate M.datas.length false } ∧ Ro S1 wr W' ∧ ∀ q, q ≠ .els u → q ≠ .das u → q ≠ .ins u → L' q = L1 q) (by first | exact ⟨_, _, HXT.out⟩ | exact ⟨_, _, HXF.out⟩) ?_; rintro w9 ⟨e1, d1, L9, h9, ro9, hk9⟩; have H9 := Lib.hid (And.intro h9 (And.intro ro9 hk9)); clear h9 ro9 hk9 hHeld; go_wp2; go_ret2; rw [HML.out]; obtain ⟨S10, L10, hsm, hS10, hk10⟩ := H9.out.1.done; exact ⟨iB, S10, L10, rfl, hsm, (HRO.out.trans HX.out.2.1 (fun b hb => .inl hb)).trans H9.out.2.1 (fun b hb => HX.out.2.2.2.1 b (.inl hb)), fun b hb => hS10 b (HX.out.2.2.2.1 b (.inl hb)), fun q a b => (hk10 q b (by rintro rfl; exact a rfl)).trans ((H9.out.2.2 q (by rintro rfl; exact a rfl) (by rintro rfl; exact a rfl) (by rintro rfl; exact a rfl)).trans (HX.out.2.2.2.2 q a b))⟩
                ·
                  go_simp
                  refine hK.out _ _ (fun _ => by (first | exact KEY.out _ (Below.refl _ _).drew | exact KEY.out _ ((Below.refl _ _).drew.alloc (Nat.le_refl _) _) | exact KEY.out _ (((Below.refl _ _).drew.alloc (Nat.le_refl _) _).alloc (by simp) _) | exact KEYS.out _ _ (((Below.refl _ _).alloc (Nat.le_refl _) _).drew) | exact KEYS.out _ _ ((((Below.refl _ _).alloc (Nat.le_refl _) _).alloc (by simp) _).drew))) (fun hh => ?_)
                  have hHeld := hh rfl
                  clear hK K
                  try simp only [Act.put, List.setIfInBounds_toArray, List.set_cons_zero, List.set_cons_succ]
                  refine wpZ_one (i := 5) (oi := ⟨some 123, .makeSlice 65 (.tmp 122) (.tmp 122), 65, _, _, none⟩) rfl (by kernel_rfl) (fun K hK => ?_)
                  go_simp
                  refine hK.out _ _ (fun _ => by (first | exact KEY.out _ (Below.refl _ _).drew | exact KEY.out _ ((Below.refl _ _).drew.alloc (Nat.le_refl _) _) | exact KEY.out _ (((Below.refl _ _).drew.alloc (Nat.le_refl _) _).alloc (by simp) _) | exact KEYS.out _ _ (((Below.refl _ _).alloc (Nat.le_refl _) _).drew) | exact KEYS.out _ _ ((((Below.refl _ _).alloc (Nat.le_refl _) _).alloc (by simp) _).drew))) (fun hh => ?_)
                  have hHeld := hh rfl
                  clear hK K
                  try simp only [Act.put, List.setIfInBounds_toArray, List.set_cons_zero, List.set_cons_succ]
                  (refine wpZ_take (i := 10) (oi := ⟨some 128, .nilCheck (.tmp 118), 0, _, _, none⟩) (v := ?_) rfl (by kernel_rfl) (fun _ _ _ h => h) (by assumption) (Or.inl ⟨by rfl, ?_⟩) ?_; rotate_left 1; · ((intro w hSw; (try dsimp only at hSw); go_split_ands; go_simp) <;> (try with_reducible rfl)))
                  try simp only [Act.put, List.setIfInBounds_toArray, List.set_cons_zero, List.set_cons_succ]
                  (refine wpZ_take (i := 11) (oi := ⟨some 129, .fieldAddr 67 (.tmp 128) 5, 0, _, _, none⟩) (v := ?_) rfl (by kernel_rfl) (fun _ _ _ h => h) (by assumption) (Or.inl ⟨by rfl, ?_⟩) ?_; rotate_left 1; · ((intro w hSw; (try dsimp only at hSw); go_split_ands; go_simp) <;> (try with_reducible rfl)))
                  try simp only [Act.put, List.setIfInBounds_toArray, List.set_cons_zero, List.set_cons_succ]
                  refine wpZ_one (i := 12) (oi := ⟨none, .store 65 (.tmp 129) (.tmp 123), 0, _, _, none⟩) rfl (by kernel_rfl) (fun K hK => ?_)
                  go_simp
                  refine hK.out _ _ (fun _ => by (first | exact KEY.out _ (Below.refl _ _).drew | exact KEY.out _ ((Below.refl _ _).drew.alloc (Nat.le_refl _) _) | exact KEY.out _ (((Below.refl _ _).drew.alloc (Nat.le_refl _) _).alloc (by simp) _) | exact KEYS.out _ _ (((Below.refl _ _).alloc (Nat.le_refl _) _).drew) | exact KEYS.out _ _ ((((Below.refl _ _).alloc (Nat.le_refl _) _).alloc (by simp) _).drew))) (fun hh => ?_)
                  have hHeld := hh rfl
                  clear hK K
                  try simp only [Act.put, List.setIfInBounds_toArray, List.set_cons_zero, List.set_cons_succ]
                  refine wpZ_one (i := 13) (oi := ⟨some 130, .nilCheck (.tmp 119), 0, _, _, none⟩) rfl (by kernel_rfl) (fun K hK => ?_)
                  go_simp
                  refine hK.out _ _ (fun h => by simp at h) (fun _ => ?_)
                  clear hK K
                  try simp only [Act.put, List.setIfInBounds_toArray, List.set_cons_zero, List.set_cons_succ]
                  refine wpZ_one (i := 14) (oi := ⟨some 131, .fieldAddr 67 (.tmp 130) 6, 0, _, _, none⟩) rfl (by kernel_rfl) (fun K hK => ?_)
                  go_simp
                  refine hK.out _ _ (fun h => by simp at h) (fun _ => ?_)
                  clear hK K
                  try simp only [Act.put, List.setIfInBounds_toArray, List.set_cons_zero, List.set_cons_succ]
                  refine wpZ_one (i := 15) (oi := ⟨none, .store 65 (.tmp 131) (.tmp 127), 0, _, _, none⟩) rfl (by kernel_rfl) (fun K hK => ?_)
                  go_simp
                  refine hK.out _ _ (fun h => by simp at h) (fun _ => ?_)
                  clear hK K
                  try simp only [Act.put, List.setIfInBounds_toArray, List.set_cons_zero, List.set_cons_succ]
                  refine wpZ_done (by kernel_rfl) ?_ _
                  refine all_worldC (fun W' => ∃ e1 d1 L', Mkr W' S1 L' u iB M mcl bv mv tv gv e1 d1 [] ess { blocks := [], mem := memC M, tabs := tabsC M.tabs, glo := M.globs.map valueC, els := List.replicate M.elems.length false, das := List.replicate M.datas.length false } ∧ Ro S1 wr W' ∧ ∀ q, q ≠ .els u → q ≠ .das u → q ≠ .ins u → L' q = L1 q) (by first | exact ⟨_, _, HXT.out⟩ | exact ⟨_, _, HXF.out⟩) ?_; rintro w9 ⟨e1, d1, L9, h9, ro9, hk9⟩; have H9 := Lib.hid (And.intro h9 (And.intro ro9 hk9)); clear h9 ro9 hk9 hHeld; go_wp2; go_ret2; rw [HML.out]; obtain ⟨S10, L10, hsm, hS10, hk10⟩ := H9.out.1.done; exact ⟨iB, S10, L10, rfl, hsm, (HRO.out.trans HX.out.2.1 (fun b hb => .inl hb)).trans H9.out.2.1 (fun b hb => HX.out.2.2.2.1 b (.inl hb)), fun b hb => hS10 b (HX.out.2.2.2.1 b (.inl hb)), fun q a b => (hk10 q b (by rintro rfl; exact a rfl)).trans ((H9.out.2.2 q (by rintro rfl; exact a rfl) (by rintro rfl; exact a rfl) (by rintro rfl; exact a rfl)).trans (HX.out.2.2.2.2 q a b))⟩
end Go.Proofs.YtmnebeikafigjaaGreatDoor
/- The reference's Make: its words. -/
set_option linter.unusedVariables false
set_option linter.unusedSimpArgs false
namespace Go.Proofs.YtmnebeikafigjaaGreatDoor
open Go.RowKit Go.Sep Go.St
set_option maxHeartbeats 1000000 in
theorem low_c (x : Int) (h0 : 0 ≤ x) (h1 : x ≤ 18446744073709551615) (w : World) : Calls Tryz.prog 34 #[.int .u64 x] w fun e w' => e = .returned (.int .u64 (x % 4294967296)) ∧ w' = w := by
  have c1 := and_low x h0 (by omega)
  unfold lowI at c1
  clear h0 h1
  go_enter Tryz.func34, Tryz.ntmps34
  go_wp2
  go_ret
  exact ⟨rfl, rfl⟩
set_option maxHeartbeats 1000000 in
theorem rfits_c (n d l : Nat) (hn : n < 9223372036854775808) (h1 : d < 18446744073709551616) (h2 : l < 18446744073709551616) (w : World) : Calls Tryz.prog 36 #[.int .i64 (n : Int), .int .u64 (d : Int), .int .u64 (l : Int)] w fun e w' => e = .returned (.bool (decide (d + l ≤ n))) ∧ w' = w := by
  have g1 : decide ((n : Int) ≥ 0) = true := decide_eq_true (by omega)
  have g2 : decide ((0 : Int) ≤ (n : Int)) = true := decide_eq_true (by omega)
  have c1 : IntKind.u64.wrap (n : Int) = n := IntWalk.u64_in _ (by omega)
  by_cases hd : d ≤ n
  · have a1 : decide ((d : Int) ≤ (n : Int)) = true := decide_eq_true (by omega)
    have a2 : decide (d ≤ n) = true := decide_eq_true hd
    have c2 : IntKind.u64.wrap ((n : Int) - (d : Int)) = ((n - d : Nat) : Int) := by rw [IntWalk.u64_in _ (by omega)]; omega
    have e : decide ((l : Int) ≤ ((n - d : Nat) : Int)) = decide (d + l ≤ n) := decide_eq_decide.2 (by omega)
    have e3 : decide (l ≤ n - d) = decide (d + l ≤ n) := decide_eq_decide.2 (by omega)
    generalize hb : decide (d + l ≤ n) = bb at *
    clear hd hn h1 h2 hb
    go_enter Tryz.func36, Tryz.ntmps36
    go_wp2
    go_ret
    exact ⟨rfl, rfl⟩
  · have a1 : decide ((d : Int) ≤ (n : Int)) = false := decide_eq_false (by omega)
    have a2 : decide (d ≤ n) = false := decide_eq_false hd
    have e : decide (d + l ≤ n) = false := decide_eq_false (by omega)
    rw [e]
    clear hd hn h1 h2 e
    go_enter Tryz.func36, Tryz.ntmps36
    go_wp2
    go_ret
    exact ⟨rfl, rfl⟩
variable {w : World} {S : Nat → Prop} {L : Key → Option Ck} {u iB : Nat} {M : Mo} {mc : List Value} {I : In}
/-- An elem segment's mark is set. -/
theorem Sm.els {w1 : World} {ev : Value} {l' : List Bool} (h : Sm w S L u iB M mc I) (a8 : L (.els u) = some (.rw 4 1 ev (bools I.els))) (hr : Row w1 4 1 ev (bools l')) (hg : w.grownBy w1 (rowBlock ev)) :
    Sm w1 S (upd L (.els u) (.rw 4 1 ev (bools l'))) u iB M mc { I with els := l' } ∧ Ro S w w1 := by
  obtain ⟨s1, r1⟩ := h.si.sep.grow a8 hr hg (.inl rfl)
  obtain ⟨mc', bv, mv, tv, gv, ev', dv, b1, b2, b3, b4, b5, b6, b7, b8⟩ := h.si.ins
  obtain rfl := ck_rw a8 b7 rfl
  obtain ⟨r, h1, h2⟩ := h.ins
  exact ⟨⟨⟨s1, (upd_other _ _ (by simp)).trans h.si.mach, (upd_other _ _ (by simp)).trans h.si.cfg, ⟨mc', bv, mv, tv, gv, ev, dv, (upd_other _ _ (by simp)).trans b1, b2.mono r1 (fun _ h => h), b3.mono r1 (fun _ h => h) (fun _ _ h => h.mono r1 (fun _ h => h)), (upd_other _ _ (by simp)).trans b4, b5.mono (upd_other _ _ (by simp)) (fun k => upd_other _ _ (by simp)), (upd_other _ _ (by simp)).trans b6, upd_same _ _ _, (upd_other _ _ (by simp)).trans b8⟩, h.si.wf⟩, r, (upd_other _ _ (by simp)).trans h1, h2⟩, r1⟩
/-- A table's row is another one, in its own place. -/
theorem Sm.tab {w1 : World} {vt : Value} {k : Nat} {t t' : List Int} (h : Sm w S L u iB M mc I) (ht : I.tabs[k]? = some t) (a5 : L (.tab u k) = some (.rw 26 1 vt (ints .u64 t))) (hr : Row w1 26 1 vt (ints .u64 t')) (hg : w.grownBy w1 (rowBlock vt)) :
    Sm w1 S (upd L (.tab u k) (.rw 26 1 vt (ints .u64 t'))) u iB M mc { I with tabs := I.tabs.set k t' } ∧ Ro S w w1 := by
  obtain ⟨s1, r1⟩ := h.si.sep.grow a5 hr hg (.inl rfl)
  obtain ⟨mc', bv, mv, tv, gv, ev, dv, b1, b2, b3, b4, ⟨raws, c1, c2, c3⟩, b6, b7, b8⟩ := h.si.ins
  obtain ⟨r, h1, h2⟩ := h.ins
  refine ⟨⟨⟨s1, (upd_other _ _ (by simp)).trans h.si.mach, (upd_other _ _ (by simp)).trans h.si.cfg, ⟨mc', bv, mv, tv, gv, ev, dv, (upd_other _ _ (by simp)).trans b1, b2.mono r1 (fun _ h => h), b3.mono r1 (fun _ h => h) (fun _ _ h => h.mono r1 (fun _ h => h)), (upd_other _ _ (by simp)).trans b4, ⟨raws, by simpa using c1, (upd_other _ _ (by simp)).trans c2, fun q l v hq hv => ?_⟩, (upd_other _ _ (by simp)).trans b6, (upd_other _ _ (by simp)).trans b7, (upd_other _ _ (by simp)).trans b8⟩, h.si.wf⟩, r, (upd_other _ _ (by simp)).trans h1, h2⟩, r1⟩
  have hq : (I.tabs.set k t')[q]? = some l := hq
  by_cases e : q = k
  · subst e
    rw [upd_same]
    rw [List.getElem?_set, if_pos rfl, if_pos (List.getElem?_eq_some_iff.1 ht).1] at hq
    cases hq
    have := c3 q t v ht hv
    rw [a5] at this
    cases this
    rfl
  · rw [upd_other _ _ (by simpa using e)]
    rw [List.getElem?_set, if_neg (Ne.symm e)] at hq
    exact c3 q l v hq hv
theorem laid_nil (l : List Int) (d : Nat) : laid l d [] = l := by simp [laid]
theorem laid_snoc {l ys : List Int} {d : Nat} {v : Int} (h : d + ys.length < l.length) : (laid l d ys).set (d + ys.length) v = laid l d (ys ++ [v]) := by
  unfold laid
  have ht : (l.take d).length = d := by rw [List.length_take]; omega
  rw [List.set_append_right _ _ (by rw [List.length_append]; omega), show d + ys.length - (l.take d ++ ys).length = 0 by rw [List.length_append]; omega]
  have hd : l.drop (d + ys.length) = l[d + ys.length] :: l.drop (d + ys.length + 1) := List.drop_eq_getElem_cons h
  rw [hd, List.set_cons_zero]
  simp only [List.append_assoc, List.length_append, List.length_singleton, List.singleton_append]
  rw [show d + (ys.length + 1) = d + ys.length + 1 by omega]
theorem laid_length {l ys : List Int} {d : Nat} (h : d + ys.length ≤ l.length) : (laid l d ys).length = l.length := by
  unfold laid
  simp only [List.length_append, List.length_take, List.length_drop]
  omega
/-- What an elem segment leaves; none: a trap. -/
def elemR (x : El) (k : Nat) (I : In) : Option In :=
  if x.mode = 1 then some I
  else if x.mode = 2 then some { I with els := I.els.set k true }
  else if (valueC x.off % 4294967296).toNat + x.init.length ≤ (I.tabs.getD x.table.toNat []).length then some { I with els := I.els.set k true, tabs := I.tabs.set x.table.toNat (laid (I.tabs.getD x.table.toNat []) (valueC x.off % 4294967296).toNat (x.init.map valueC)) } else none
def dataR (x : Da) (k : Nat) (I : In) : Option In :=
  if x.mode = 1 then some I
  else if (valueC x.off % 4294967296).toNat + x.bytes.length ≤ I.mem.length then some { I with das := I.das.set k true, mem := laid I.mem (valueC x.off % 4294967296).toNat x.bytes } else none
def elemsR (l : List El) (I : In) : Nat → Option In
  | 0 => some I
  | k + 1 => match elemsR l I k, l[k]? with
    | some J, some x => elemR x k J
    | _, _ => none
def datasR (l : List Da) (I : In) : Nat → Option In
  | 0 => some I
  | k + 1 => match datasR l I k, l[k]? with
    | some J, some x => dataR x k J
    | _, _ => none
def makeI (M : Mo) (ess : List Es) : Option In := match elemsR M.elems (newI M ess) M.elems.length with
  | some J => datasR M.datas J M.datas.length
  | none => none
theorem elemR_len {x : El} {k : Nat} {I J : In} (h : elemR x k I = some J) : J.els.length = I.els.length ∧ J.tabs.length = I.tabs.length ∧ J.das = I.das ∧ J.mem = I.mem ∧ J.glo = I.glo ∧ J.blocks = I.blocks := by
  unfold elemR at h
  split at h
  · cases h; simp
  split at h
  · cases h; simp
  split at h
  · cases h; simp
  · cases h
theorem elemsR_len {l : List El} {I : In} : ∀ {k : Nat} {J : In}, elemsR l I k = some J → J.els.length = I.els.length ∧ J.tabs.length = I.tabs.length ∧ J.das = I.das ∧ J.mem = I.mem ∧ J.glo = I.glo ∧ J.blocks = I.blocks
  | 0, J, h => by cases h; simp
  | k + 1, J, h => by
    unfold elemsR at h
    split at h
    · rename_i J0 x h0 hx
      have a := elemsR_len h0
      have b := elemR_len h
      exact ⟨b.1.trans a.1, b.2.1.trans a.2.1, b.2.2.1.trans a.2.2.1, b.2.2.2.1.trans a.2.2.2.1, b.2.2.2.2.1.trans a.2.2.2.2.1, b.2.2.2.2.2.trans a.2.2.2.2.2⟩
    · cases h
theorem dataR_len {x : Da} {k : Nat} {I J : In} (h : dataR x k I = some J) : J.das.length = I.das.length := by
  unfold dataR at h
  split at h
  · cases h; simp
  split at h
  · cases h; simp
  · cases h
theorem datasR_len {l : List Da} {I : In} : ∀ {k : Nat} {J : In}, datasR l I k = some J → J.das.length = I.das.length
  | 0, J, h => by cases h; simp
  | k + 1, J, h => by
    unfold datasR at h
    split at h
    · rename_i J0 x h0 hx
      exact (dataR_len h).trans (datasR_len h0)
    · cases h
theorem valueC_range {l : List Ins} (h : ∀ x ∈ l, Ins.wf x) : 0 ≤ valueC l ∧ valueC l ≤ 18446744073709551615 := by
  unfold valueC
  split
  · omega
  · rename_i x r
    have := h x (by simp)
    split
    · have := this.n; omega
    · split
      · have := this.a; omega
      · omega
end Go.Proofs.YtmnebeikafigjaaGreatDoor
