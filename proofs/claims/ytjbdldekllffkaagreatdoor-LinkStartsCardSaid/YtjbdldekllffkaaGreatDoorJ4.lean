/- Lemmas of the walk, part 4. -/
import Derived.Test.YtjbdldekllffkaaGreatDoorJ3
/- inst's New: its start. -/
set_option linter.unusedVariables false
set_option linter.unusedSimpArgs false
namespace Go.Proofs.YtjbdldekllffkaaGreatDoor
open Go.RowKit Go.Sep Go.St
variable {w : World} {S : Nat → Prop} {L : Key → Option Ck} {u iB : Nat} {M : Mo} {mc : List Value} {bv mv tv gv ev dv : Value} {er : Int} {bl : List Es} {I : In}
/-- A module's value, cell by cell. -/
structure Mf (M : Mo) (mc : List Value) (tA fA bA mA gA xA eA cA dA : Option Addr) (tc fc bc mk gc xn xc ec cc dc : Nat) (st : Bool) (sn : Int) (cs : Bool) (cn : Int) : Prop where
  eq : mc = [.slice tA M.types.length tc, .slice fA M.funcs.length fc, .slice bA M.tabs.length bc, .slice mA M.mems.length mk, .slice gA M.globs.length gc, .slice xA xn xc, .bool st, .int .u32 sn, .slice eA M.elems.length ec, .bool cs, .int .u32 cn, .slice cA M.codes.length cc, .slice dA M.datas.length dc]
structure Mx (mc : List Value) (xA : Option Addr) (xn xc : Nat) (st : Bool) (sn : Int) (cs : Bool) (cn : Int) : Prop where
  ex : mc[5]? = some (.slice xA xn xc)
  st : mc[6]? = some (.bool st)
  sn : mc[7]? = some (.int .u32 sn)
  cs : mc[9]? = some (.bool cs)
  cn : mc[10]? = some (.int .u32 cn)
theorem list13 {mc : List Value} (h : mc.length = 13) {v0 v1 v2 v3 v4 v5 v6 v7 v8 v9 v10 v11 v12 : Value} (h0 : mc[0]? = some v0) (h1 : mc[1]? = some v1) (h2 : mc[2]? = some v2) (h3 : mc[3]? = some v3) (h4 : mc[4]? = some v4) (h5 : mc[5]? = some v5) (h6 : mc[6]? = some v6) (h7 : mc[7]? = some v7) (h8 : mc[8]? = some v8) (h9 : mc[9]? = some v9) (h10 : mc[10]? = some v10) (h11 : mc[11]? = some v11) (h12 : mc[12]? = some v12) :
    mc = [v0, v1, v2, v3, v4, v5, v6, v7, v8, v9, v10, v11, v12] := by
  apply List.ext_getElem?
  intro i
  rcases (by omega : i = 0 ∨ i = 1 ∨ i = 2 ∨ i = 3 ∨ i = 4 ∨ i = 5 ∨ i = 6 ∨ i = 7 ∨ i = 8 ∨ i = 9 ∨ i = 10 ∨ i = 11 ∨ i = 12 ∨ 13 ≤ i) with rfl | rfl | rfl | rfl | rfl | rfl | rfl | rfl | rfl | rfl | rfl | rfl | rfl | hi
  all_goals first | (rw [h0]; rfl) | (rw [h1]; rfl) | (rw [h2]; rfl) | (rw [h3]; rfl) | (rw [h4]; rfl) | (rw [h5]; rfl) | (rw [h6]; rfl) | (rw [h7]; rfl) | (rw [h8]; rfl) | (rw [h9]; rfl) | (rw [h10]; rfl) | (rw [h11]; rfl) | (rw [h12]; rfl) | (rw [List.getElem?_eq_none (by omega), List.getElem?_eq_none (by simpa using hi)])
theorem ModR.form (h : ModR w S M mc) {xA : Option Addr} {xn xc : Nat} {st : Bool} {sn : Int} {cs : Bool} {cn : Int} (hx : Mx mc xA xn xc st sn cs cn) :
    ∃ tA fA bA mA gA eA cA dA tc fc bc mk gc ec cc dc, Mf M mc tA fA bA mA gA xA eA cA dA tc fc bc mk gc xn xc ec cc dc st sn cs cn := by
  obtain ⟨hl, ⟨v0, a0, ⟨tA, tc, rfl, _⟩⟩, ⟨v1, a1, ⟨fA, fc, rfl, _⟩⟩, ⟨v2, a2, ⟨bA, bc, rfl, _⟩⟩, ⟨v3, a3, ⟨mA, mk, rfl, _⟩⟩, ⟨v4, a4, ⟨gA, gc, rfl, _⟩⟩, ⟨v8, a8, ⟨eA, ec, rfl, _⟩⟩, ⟨v11, a11, ⟨cA, cc, rfl, _⟩⟩, ⟨v12, a12, ⟨dA, dc, rfl, _⟩⟩⟩ := h
  exact ⟨tA, fA, bA, mA, gA, eA, cA, dA, tc, fc, bc, mk, gc, ec, cc, dc, ⟨list13 hl a0 a1 a2 a3 a4 hx.ex hx.st hx.sn a8 hx.cs hx.cn a11 a12⟩⟩
def inst0 (M : Mo) : In := { blocks := [], mem := [], tabs := [], glo := [], els := List.replicate M.elems.length false, das := List.replicate M.datas.length false }
/-- The maker as it begins: its rows in one order or the other. -/
theorem mkr_start (hs : Sep w S L) (hm : ModR w S M mc) (hw : Wf M) (k0 : L .mach = none) (k1 : L (.cfg u) = none) {w1 : World} (q : Below w.heap.size w w1) (ea : Bool) :
    ∀ (ev dv : Value) (w2 : World), (ea = true ∧ ev = .slice (some ⟨w1.heap.size, 0, none⟩) M.elems.length M.elems.length ∧ dv = .slice (some ⟨w1.heap.size + 1, 0, none⟩) M.datas.length M.datas.length ∧ w2 = (w1.alloc (.cells (Array.replicate M.elems.length (.bool false)) 4)).alloc (.cells (Array.replicate M.datas.length (.bool false)) 4) ∨
      ea = false ∧ ev = .slice (some ⟨w1.heap.size + 1, 0, none⟩) M.elems.length M.elems.length ∧ dv = .slice (some ⟨w1.heap.size, 0, none⟩) M.datas.length M.datas.length ∧ w2 = (w1.alloc (.cells (Array.replicate M.datas.length (.bool false)) 4)).alloc (.cells (Array.replicate M.elems.length (.bool false)) 4)) →
    ∃ L', Mkr (w2.alloc (.cells (mc ++ [.slice none 0 0, .slice none 0 0, .slice none 0 0, .slice none 0 0, ev, dv, .int .i64 0]).toArray 217)) S L' u w2.heap.size M mc (.slice none 0 0) (.slice none 0 0) (.slice none 0 0) (.slice none 0 0) ev dv 0 [] (inst0 M) ∧
      Ro S w (w2.alloc (.cells (mc ++ [.slice none 0 0, .slice none 0 0, .slice none 0 0, .slice none 0 0, ev, dv, .int .i64 0]).toArray 217)) ∧ ∀ q, q.own ≠ some u → (q ≠ .tmp 3) → L' q = L q := by
  intro ev dv w2 hor
  have ro1 : Ro S w w1 := ⟨⟨q.size, q.os, q.output⟩, fun b hb => q.block b (hs.lt b hb)⟩
  have s1 := hs.still q.size q.block
  obtain ⟨L2, s2, ro2, e2, d2, o2⟩ : ∃ L2, Sep w2 S L2 ∧ Ro S w1 w2 ∧ L2 (.els u) = some (.rw 4 1 ev (bools (List.replicate M.elems.length false))) ∧ L2 (.das u) = some (.rw 4 1 dv (bools (List.replicate M.datas.length false))) ∧ ∀ q, q ≠ .els u → q ≠ .das u → L2 q = L q := by
    have he : M.elems.length ≤ maxLen := by have := hw.elems.1; simp [maxLen]; omega
    have hd : M.datas.length ≤ maxLen := by have := hw.datas.1; simp [maxLen]; omega
    rcases hor with ⟨_, rfl, rfl, rfl⟩ | ⟨_, rfl, rfl, rfl⟩
    · have a := s1.newRow (.els u) (Array.replicate M.elems.length (.bool false)) 4 1 M.elems.length (by simp) he
      have b := a.newRow (.das u) (Array.replicate M.datas.length (.bool false)) 4 1 M.datas.length (by simp) hd
      rw [Array.toList_replicate, Array.toList_replicate, ← bools_rep, ← bools_rep, show (w1.alloc (.cells (Array.replicate M.elems.length (.bool false)) 4)).heap.size = w1.heap.size + 1 by simp] at b
      exact ⟨_, b, (((Still.refl w1).alloc _).alloc _).ro s1.lt, by rw [upd_other _ _ (by simp), upd_same], by rw [upd_same], fun q x y => by rw [upd_other _ _ y, upd_other _ _ x]⟩
    · have a := s1.newRow (.das u) (Array.replicate M.datas.length (.bool false)) 4 1 M.datas.length (by simp) hd
      have b := a.newRow (.els u) (Array.replicate M.elems.length (.bool false)) 4 1 M.elems.length (by simp) he
      rw [Array.toList_replicate, Array.toList_replicate, ← bools_rep, ← bools_rep, show (w1.alloc (.cells (Array.replicate M.datas.length (.bool false)) 4)).heap.size = w1.heap.size + 1 by simp] at b
      exact ⟨_, b, (((Still.refl w1).alloc _).alloc _).ro s1.lt, by rw [upd_same], by rw [upd_other _ _ (by simp), upd_same], fun q x y => by rw [upd_other _ _ x, upd_other _ _ y]⟩
  have s3 := ((((Go.Sep.Sep.del s2 (.ins u)).nilRow (.tmp 3) 195 1 none).nilRow (.mem u) 5 1 none).nilRow (.tbs u) 23 1 none).nilRow (.glo u) 58 1 none
  have s4 := s3.new (.ins u) (mc ++ [.slice none 0 0, .slice none 0 0, .slice none 0 0, .slice none 0 0, ev, dv, .int .i64 0]).toArray 217 (by rw [upd_other _ _ (by simp), upd_other _ _ (by simp), upd_other _ _ (by simp), upd_other _ _ (by simp), del_same])
  have ro3 : Ro S w2 (w2.alloc (.cells (mc ++ [.slice none 0 0, .slice none 0 0, .slice none 0 0, .slice none 0 0, ev, dv, .int .i64 0]).toArray 217)) := ((Still.refl w2).alloc _).ro s2.lt
  have ro := (ro1.trans' ro2).trans' ro3
  refine ⟨_, ⟨s4, ?_, ?_, by rw [upd_same], hm.mono ro (fun _ h => h), ⟨[], ?_, rfl, fun k r es a => by simp at a⟩, ?_, ⟨[], rfl, ?_, fun k l v a => by simp [inst0] at a⟩, ?_, ?_, ?_, hw⟩, ro, ?_⟩
  all_goals first
    | (rw [upd_other _ _ (by simp), upd_other _ _ (by simp), upd_other _ _ (by simp), upd_other _ _ (by simp), upd_other _ _ (by simp), del_other _ (by simp)]; first | exact e2 | exact d2 | exact (o2 _ (by simp) (by simp)).trans k0 | exact (o2 _ (by simp) (by simp)).trans k1)
    | (simp [upd, inst0, ints]; done)
    | skip
  intro q h1 h2
  have n : ∀ k : Key, k.own = some u → q ≠ k := fun k hk e => h1 (e ▸ hk)
  rw [upd_other _ _ (n _ rfl), upd_other _ _ (n _ rfl), upd_other _ _ (n _ rfl), upd_other _ _ (n _ rfl), upd_other _ _ h2, del_other _ (n _ rfl), o2 _ (n _ rfl) (n _ rfl)]
end Go.Proofs.YtjbdldekllffkaaGreatDoor
/- step's machine: opens in one, calls. -/
set_option linter.unusedVariables false
namespace Go.Proofs.YtjbdldekllffkaaGreatDoor
open Go.RowKit Go.Sep Go.St
variable {w : World} {S : Nat → Prop} {L : Key → Option Ck} {u : Nat} {P : Ptrs} {M : Mo} {s : Ms}
def U64 (l : List Int) : Prop := ∀ x ∈ l, 0 ≤ x ∧ x < 18446744073709551616
/-- opens, told by openC. -/
theorem opens_c (h : Md w S L u P M s) (f : Nat) (hf : f < 4294967296) (A : Option Addr) (m c : Nat) (args : List Int) (hargs : RdL w S 1 (num1 .u64) (.slice A m c) args) (hw : U64 args) (hb : s.c.st.length ≤ 1000000000) :
    Calls Tryz.prog 93 #[.pointer (some ⟨P.mB, 0, none⟩), .int .u32 (f : Int), .slice A m c] w fun e w' => e = .returned (.tuple #[]) ∧ To w S L u P M w' { s with c := openC M s.i.blocks.length s.c f args } := by
  unfold openC
  by_cases hn : 32 ≤ s.c.frs.length
  · rw [if_pos hn]
    exact opens_lim h f _ hn
  rw [if_neg hn]
  cases ht : functionM M s.i.blocks.length (f : Int) with
  | none => exact opens_no h f hf _ (by omega) ht
  | some t =>
    obtain ⟨x, _, _, hc, _⟩ := functionM_some ht
    obtain ⟨cd, hcd⟩ : ∃ cd, M.codes[f]? = some cd := ⟨_, List.getElem?_eq_getElem hc⟩
    rw [Int.toNat_natCast, hcd]
    simp only
    by_cases hm : args.length = t.ps.length
    · rw [if_neg (by simp [hm])]
      exact opens_yes h f hf A m c args hargs (by omega) t ht cd hcd hm hw hb
    · rw [if_pos hm]
      exact opens_arg h f hf A m c (by omega) t ht (by rw [hargs.len.1]; exact hm)
theorem popsC_some {C : Cf} {n : Int} {l : List Int} {C1 : Cf} (h : popsC C n = some (l, C1)) : 0 ≤ n ∧ n.toNat ≤ C.st.length ∧ l = C.st.drop (C.st.length - n.toNat) ∧ C1 = { C with st := C.st.take (C.st.length - n.toNat) } := by
  unfold popsC at h
  split at h
  · cases h
  · injection h with h
    injection h with h1 h2
    exact ⟨by omega, by omega, h1.symm, h2.symm⟩
/-- pops, told by popsC. -/
def PopsR (w : World) (S : Nat → Prop) (L : Key → Option Ck) (u : Nat) (P : Ptrs) (M : Mo) (s : Ms) (r : Option (List Int × Cf)) (e : Ending) (w' : World) : Prop := match r with
  | none => e = .returned (.tuple #[.slice none 0 0, .bool false]) ∧ To w S L u P M w' { s with c := endsC 17 }
  | some (l, C1) => Popped w S L u P M { s with c := C1 } l e w'
theorem pops_c (h : Md w S L u P M s) (n : Int) (hn2 : -4611686018427387904 < n ∧ n < 4611686018427387904) (hb : s.c.st.length ≤ 1000000000) (r : Option (List Int × Cf)) (hr : popsC s.c n = r) :
    Calls Tryz.prog 99 #[.pointer (some ⟨P.mB, 0, none⟩), .int .i64 n] w (PopsR w S L u P M s r) := by
  subst hr
  cases hr : popsC s.c n with
  | none =>
    refine pops_no h n ?_ hn2 hb
    unfold popsC at hr
    split at hr
    · assumption
    · cases hr
  | some p =>
    obtain ⟨l, C1⟩ := p
    obtain ⟨h0, h1, rfl, rfl⟩ := popsC_some hr
    exact pops_yes h n _ n.toNat (by omega) (by omega) hb
set_option maxRecDepth 100000 in
set_option maxHeartbeats 1000000 in
theorem calls_c (h : Md w S L u P M s) (f : Nat) (hf : f < 4294967296) (hw : U64 s.c.st) (hb : s.c.st.length ≤ 1000000000) :
    Calls Tryz.prog 101 #[.pointer (some ⟨P.mB, 0, none⟩), .int .u32 (f : Int)] w fun e w' => e = .returned (.tuple #[]) ∧ To w S L u P M w' { s with c := callC M s.i.blocks.length s.c f } := by
  cases ht : functionM M s.i.blocks.length (f : Int) with
  | none =>
    rw [show callC M s.i.blocks.length s.c f = endsC 17 from by unfold callC; simp only [ht]]
    have HF := Lib.hid (function_no h f hf ht)
    have HE := Lib.hid (fun (w' : World) (q : Still w w') => (stuck_yes (h.still q)))
    have HR := Lib.hid (fun (w' : World) (q : Still w w') => (q.ro h.sep.lt))
    clear h hf hw hb ht
    go_enter Tryz.func101, Tryz.ntmps101
    go_wp2_with fail
    refine HF.out.mono ?_
    rintro e w1 ⟨rfl, hst⟩
    have ST := Lib.hid hst
    clear hst
    go_wp2_with fail
    refine (HE.out _ (ST.out.alloc _)).mono ?_
    rintro e w2 ⟨rfl, ht⟩
    have HT := Lib.hid (To.trans (Keep.refl _ _) (HR.out _ (ST.out.alloc _)) (fun _ h => h) ht)
    clear ht
    go_wp2
    exact bodyPost_ret (v := .tuple #[]) (by simp [results, Tryz.results101, go_sem]) rfl ⟨rfl, HT.out⟩
  | some t =>
    have HF := Lib.hid (function_yes h f hf t ht)
    have hps : t.ps.length ≤ 1000 := by
      obtain ⟨x, hx1, hx2, _⟩ := functionM_some ht
      exact (h.wf.ps t (List.mem_of_getElem? hx2)).2.1
    have HP := Lib.hid (fun (w' : World) (q : Still w w') => pops_c (h.still q) (t.ps.length : Int) (by omega) hb _ rfl)
    have HR := Lib.hid (fun (w' : World) (q : Still w w') => (q.ro h.sep.lt))
    cases hp : popsC s.c (t.ps.length : Int) with
    | none =>
      rw [hp] at HP
      rw [show callC M s.i.blocks.length s.c f = endsC 17 from by unfold callC; simp only [ht, hp]]
      clear h hf hw hb ht hps hp
      go_enter Tryz.func101, Tryz.ntmps101
      go_wp2_with fail
      refine HF.out.mono ?_
      rintro e w1 ⟨pA, pc, rA, rc, rfl, _, hst⟩
      have ST := Lib.hid hst
      clear hst
      go_wp2_with (go_at_call 52; (with_reducible refine (stuck_no _ _).mono ?_); rintro e w2 ⟨rfl, rfl⟩)
      refine (HP.out _ (ST.out.alloc _)).mono ?_
      rintro e w2 ⟨rfl, ht⟩
      have HT := Lib.hid (To.trans (Keep.refl _ _) (HR.out _ (ST.out.alloc _)) (fun _ h => h) ht)
      clear ht
      go_wp2
      go_end0
      exact ⟨rfl, HT.out⟩
    | some p =>
      obtain ⟨l, C1⟩ := p
      rw [hp] at HP
      have hlw : U64 l ∧ C1.st.length ≤ 1000000000 := by
        obtain ⟨_, _, rfl, rfl⟩ := popsC_some hp
        exact ⟨fun x hx => hw x (List.mem_of_mem_drop hx), by simp only [List.length_take]; omega⟩
      rw [show callC M s.i.blocks.length s.c f = openC M s.i.blocks.length C1 f l from by unfold callC; simp only [ht, hp]]
      have HLW := Lib.hid (And.intro hlw hf)
      clear h hf hw hb ht hps hp hlw
      go_enter Tryz.func101, Tryz.ntmps101
      go_wp2_with fail
      refine HF.out.mono ?_
      rintro e w1 ⟨pA, pc, rA, rc, rfl, _, hst⟩
      have ST := Lib.hid hst
      clear hst
      go_wp2_with (go_at_call 52; (with_reducible refine (stuck_no _ _).mono ?_); rintro e w2 ⟨rfl, rfl⟩)
      refine (HP.out _ (ST.out.alloc _)).mono ?_
      rintro e w2 ⟨B, n, c, rfl, S2, L2, h2, k2, ro2, hS2, rd2, _⟩
      have HO := Lib.hid (opens_c h2 f HLW.out.2 B n c l rd2 HLW.out.1.1 HLW.out.1.2)
      have HK := Lib.hid (And.intro k2 (And.intro ((HR.out _ (ST.out.alloc _)).trans' ro2) hS2))
      clear h2 k2 ro2 hS2 rd2
      go_wp2_with fail
      refine HO.out.mono ?_
      rintro e w3 ⟨rfl, ht⟩
      have HT := Lib.hid (To.trans HK.out.1 HK.out.2.1 HK.out.2.2 ht)
      clear ht
      go_wp2
      go_end0
      exact ⟨rfl, HT.out⟩
end Go.Proofs.YtjbdldekllffkaaGreatDoor
/- step's machine: branches. -/
set_option linter.unusedVariables false
namespace Go.Proofs.YtjbdldekllffkaaGreatDoor
open Go.RowKit Go.Sep Go.St
variable {w : World} {S : Nat → Prop} {L : Key → Option Ck} {u : Nat} {P : Ptrs} {M : Mo} {s : Ms}
set_option maxRecDepth 100000 in
set_option maxHeartbeats 1000000 in
theorem branches_stuck (h : Md w S L u P M s) {k fB fc : Nat} {f : Fr} {sv vv lv bv : Value} {raws : List (Value × Value)} (hf : Frm w L u P s k f fB fc sv vv raws lv bv) (hk2 : k ≤ 1000000) (ok : FrOk f)
    (n : Nat) (hn : n < 4294967296) (q : Nat) (hq : min n 2147483647 = q) (hlt : f.lab.length < q + 1) :
    Calls Tryz.prog 98 #[.pointer (some ⟨P.mB, 0, none⟩), .int .u32 (n : Int)] w fun e w' => e = .returned (.tuple #[]) ∧ To w S L u P M w' { s with c := endsC 17 } := by
  obtain ⟨A, c, rfl, hmc, hlr⟩ := hf.lab_form h
  have HF := Lib.hid (frame_c h hf hk2)
  have SD : ∀ m, Still w (w.drewN m) := fun m => (Still.refl w).drewN m
  have f5 := hf.cell 5 _ rfl
  have hll := ok.ll
  have HE := Lib.hid (fun n => stuck_yes (h.still (SD n)))
  generalize f.lab.length = m at f5 hmc hll hlt
  have hi1 : IntKind.i64.wrap ((m : Int) - 1) = (m : Int) - 1 := IntWalk.i64_in _ (by omega)
  have hmin : (if (2147483647 : Int) < (n : Int) then 2147483647 else (n : Int)) = (q : Int) := by split <;> omega
  have hi2 : IntKind.i64.wrap ((m : Int) - 1 - (q : Int)) = (m : Int) - 1 - (q : Int) := IntWalk.i64_in _ (by omega)
  have hneg : ((m : Int) - 1 - (q : Int) < 0) = True := eq_true (by omega)
  have hiq : IntKind.i64.wrap (q : Int) = (q : Int) := IntWalk.i64_in _ (by omega)
  clear h hf hk2 ok hlr hmc
  go_enter Tryz.func98, Tryz.ntmps98
  go_wp2_with fail
  refine HF.out.mono ?_
  rintro e w1 ⟨rfl, n1, rfl⟩
  go_wp2_with fail
  refine (HE.out _).mono ?_
  rintro e w2 ⟨rfl, ht⟩
  have HT := Lib.hid ht
  clear ht
  go_wp2
  exact bodyPost_ret (v := .tuple #[]) (by simp [results, Tryz.results98, go_sem]) rfl ⟨rfl, HT.out⟩
set_option maxRecDepth 100000 in
set_option maxHeartbeats 1000000 in
theorem branches_last (h : Md w S L u P M s) {k fB fc : Nat} {f : Fr} {sv vv lv bv : Value} {raws : List (Value × Value)} (hf : Frm w L u P s k f fB fc sv vv raws lv bv) (hk : s.c.frs.length = k + 1) (hk2 : k ≤ 1000000) (ok : FrOk f) (hb : s.c.st.length ≤ 1000000000)
    (n : Nat) (hn : n < 4294967296) (q : Nat) (hq : min n 2147483647 = q) (hlt : f.lab.length = q + 1) :
    Calls Tryz.prog 98 #[.pointer (some ⟨P.mB, 0, none⟩), .int .u32 (n : Int)] w fun e w' => e = .returned (.tuple #[]) ∧ To w S L u P M w' { s with c := leaveC s.c f } := by
  obtain ⟨A, c, rfl, hmc, hlr⟩ := hf.lab_form h
  have HF := Lib.hid (frame_c h hf hk2)
  have SD : ∀ m, Still w (w.drewN m) := fun m => (Still.refl w).drewN m
  have f5 := hf.cell 5 _ rfl
  have hll := ok.ll
  have HE := Lib.hid (fun n => leaves_c (h.still (SD n)) (hf.still (SD n)) hk hk2 ok.ar hb)
  rw [hlt] at f5 hmc
  have hi1 : IntKind.i64.wrap (((q + 1 : Nat) : Int) - 1) = (q : Int) := by rw [IntWalk.i64_in _ (by omega)]; omega
  have hmin : (if (2147483647 : Int) < (n : Int) then 2147483647 else (n : Int)) = (q : Int) := by split <;> omega
  have hi2 : IntKind.i64.wrap ((q : Int) - (q : Int)) = 0 := by rw [IntWalk.i64_in _ (by omega)]; omega
  have hiq : IntKind.i64.wrap (q : Int) = (q : Int) := IntWalk.i64_in _ (by omega)
  generalize q + 1 = m at f5 hmc hi1
  clear h hf hk2 ok hlr hmc hk hb hlt SD hll
  go_enter Tryz.func98, Tryz.ntmps98
  go_wp2_with fail
  refine HF.out.mono ?_
  rintro e w1 ⟨rfl, n1, rfl⟩
  go_wp2_with (go_at_call 52; (with_reducible refine (stuck_no _ _).mono ?_); rintro e w2 ⟨rfl, rfl⟩)
  refine (HE.out _).mono ?_
  rintro e w2 ⟨rfl, ht⟩
  have HT := Lib.hid ht
  clear ht
  go_wp2
  exact bodyPost_ret (v := .tuple #[]) (by simp [results, Tryz.results98, go_sem]) rfl ⟨rfl, HT.out⟩
theorem To.undrew {w' : World} {n : Nat} (h : To (w.drewN n) S L u P M w' s) : To w S L u P M w' s := by
  obtain ⟨S', L', a, b, c, d⟩ := h
  exact ⟨S', L', a, b, c, d⟩
theorem Md.hold {w1 : World} (h : Md w S L u P M s) (q : Still w w1) (b : Nat) (hb : w.heap.size ≤ b) (hb1 : b < w1.heap.size) : Md w1 (fun x => S x ∨ x = b) L u P M s := by
  refine h.recfg ((h.sep.still q.1.1 q.2).more (fun k c b' e1 e2 => ?_) ?_) (q.ro h.sep.lt) (fun b h => .inl h) h.cfg (fun _ _ => rfl)
  · rintro (h1 | rfl)
    · exact h.sep.ro k c b' e1 e2 h1
    · have := Ck.lt (h.sep.holds k c e1) e2
      omega
  · rintro b' (h1 | rfl)
    · have := h.sep.lt b' h1
      have := q.1.1
      omega
    · exact hb1
set_option maxRecDepth 100000 in
set_option maxHeartbeats 1000000 in
theorem branches_to (h : Md w S L u P M s) {k fB fc : Nat} {f : Fr} {sv vv lv bv : Value} {raws : List (Value × Value)} (hf : Frm w L u P s k f fB fc sv vv raws lv bv) (hk : s.c.frs.length = k + 1) (hk2 : k ≤ 1000000) (ok : FrOk f) (cd : Cd) (hcd : M.codes[f.fn.toNat]? = some cd) (hb : s.c.st.length ≤ 1000000000)
    (n : Nat) (hn : n < 4294967296) (q : Nat) (hq : min n 2147483647 = q) (j : Nat) (hlt : f.lab.length = q + 1 + j) (hj : 0 < j) (x : Lb) (hx : f.lab[j]? = some x) :
    Calls Tryz.prog 98 #[.pointer (some ⟨P.mB, 0, none⟩), .int .u32 (n : Int)] w fun e w' => e = .returned (.tuple #[]) ∧ To w S L u P M w' { s with c := branchC M s.c f n } := by
  have hbr : branchC M s.c f n = match landsC s.c x.ar x.ht with
    | none => endsC 17
    | some C1 => setTop C1 { f with at_ := x.to + 1, lab := f.lab.take (j + if opM M f.fn x.to = 3 then 1 else 0) } := by
    unfold branchC
    have e : min (n : Int) 2147483647 = (q : Int) := by omega
    rw [e, if_neg (by omega), if_neg (by omega), Int.toNat_natCast, show f.lab.length - 1 - q = j by omega, hx]
    rfl
  rw [hbr]
  obtain ⟨A, c, rfl, hmc, hlr⟩ := hf.lab_form h
  obtain ⟨lb, rfl, l0, l1, l2⟩ := lab_at hlr j x hx
  obtain ⟨hto, har⟩ := ok.lab x (List.mem_of_getElem? hx)
  have HF := Lib.hid (frame_c h hf hk2)
  have SD : ∀ m, Still w (w.drewN m) := fun m => (Still.refl w).drewN m
  have f5 := hf.cell 5 _ rfl
  have hll := ok.ll
  rw [hlt] at f5 hmc hll
  have hi1 : IntKind.i64.wrap (((q + 1 + j : Nat) : Int) - 1) = ((q + 1 + j : Nat) : Int) - 1 := IntWalk.i64_in _ (by omega)
  have hmin : (if (2147483647 : Int) < (n : Int) then 2147483647 else (n : Int)) = (q : Int) := by split <;> omega
  have hi2 : IntKind.i64.wrap (((q + 1 + j : Nat) : Int) - 1 - (q : Int)) = (j : Int) := by rw [IntWalk.i64_in _ (by omega)]; omega
  have hiq : IntKind.i64.wrap (q : Int) = (q : Int) := IntWalk.i64_in _ (by omega)
  have d0 : ((j : Int) == 0) = false := beq_eq_false_iff_ne.2 (by omega)
  have d1 : decide ((j : Int) < 0) = false := decide_eq_false (by omega)
  have e0 : (0 : Int) ≤ (j : Int) := by omega
  have e1 : (j : Int) < ((q + 1 + j : Nat) : Int) := by omega
  cases hr : landsC s.c x.ar x.ht with
  | none =>
    have HLA := Lib.hid (fun w' (y : Still w w') => lands_r (h.still y) x.ar x.ht har hb _ hr)
    have HR := Lib.hid (fun (w' : World) (q : Still w w') => (q.ro h.sep.lt))
    simp only
    have HO := Lib.hid hmc
    generalize q + 1 + j = m at f5 hi1 hi2 e1 HO
    clear h hf hk hk2 ok hcd hb hn hq hlt hj hx hbr hlr hto har SD hll hr hmc
    go_enter Tryz.func98, Tryz.ntmps98
    go_wp2_with fail
    refine HF.out.mono ?_
    rintro e w1 ⟨rfl, n1, rfl⟩
    have Q1 : Still w (w.drewN n1) := (Still.refl w).drewN n1
    replace f5 := Q1.cell f5
    replace l0 := Q1.cell l0
    replace l1 := Q1.cell l1
    replace l2 := Q1.cell l2
    have Q := Lib.hid Q1
    clear Q1
    generalize w.drewN n1 = w1 at *
    have b1 := World.block_lt_of_cell? w1 _ f5
    have b2 := World.block_lt_of_cell? w1 _ l0
    go_wp2_with (go_at_call 52; (with_reducible refine (stuck_no _ _).mono ?_); rintro e w2 ⟨rfl, rfl⟩)
    refine (HLA.out _ (Q.out.alloc _)).mono ?_
    rintro e w2 ⟨rfl, ht⟩
    have HT := Lib.hid (To.trans (Keep.refl _ _) (HR.out _ (Q.out.alloc _)) (fun _ h => h) ht)
    clear ht
    go_wp2
    exact bodyPost_ret (v := .tuple #[]) (by simp [results, Tryz.results98, go_sem]) rfl ⟨rfl, HT.out⟩
  | some C1 =>
    have HLA := Lib.hid (fun (w' : World) (b : Nat) (y : Still w w') (y1 : w.heap.size ≤ b) (y2 : b < w'.heap.size) => lands_r (h.hold y b y1 y2) x.ar x.ht har hb _ hr)
    have HR := Lib.hid (fun (w' : World) (q : Still w w') => (q.ro h.sep.lt))
    simp only
    generalize hz : (if opM M f.fn x.to = 3 then 1 else 0) = z
    have HZ := Lib.hid hz
    clear hz
    have HO := Lib.hid (And.intro hmc (And.intro hk (And.intro hk2 (And.intro hcd (And.intro ok.fn (And.intro (landsC_frs hr) (And.intro hto (And.intro hf hlt))))))))
    generalize hm : q + 1 + j = m at f5 hi1 hi2 e1 HO
    have HJ := Lib.hid (show j < m by omega)
    have HLL := Lib.hid (show m ≤ 1000000000 by omega)
    clear h hf hk hk2 ok hcd hb hn hq hlt hj hx hbr hlr hto har SD hll hr hmc hm
    go_enter Tryz.func98, Tryz.ntmps98
    go_wp2_with fail
    refine HF.out.mono ?_
    rintro e w1 ⟨rfl, n1, rfl⟩
    have Q1 : Still w (w.drewN n1) := (Still.refl w).drewN n1
    replace f5 := Q1.cell f5
    replace l0 := Q1.cell l0
    replace l1 := Q1.cell l1
    replace l2 := Q1.cell l2
    have Q := Lib.hid Q1
    clear Q1
    generalize w.drewN n1 = w1 at *
    have b1 := World.block_lt_of_cell? w1 _ f5
    have b2 := World.block_lt_of_cell? w1 _ l0
    go_wp2_with (go_at_call 52; (with_reducible refine (stuck_no _ _).mono ?_); rintro e w2 ⟨rfl, rfl⟩)
    refine (HLA.out _ w1.heap.size (Q.out.alloc _) Q.out.1.1 (by simp)).mono ?_
    rintro e w2 ⟨rfl, S2, L2, h2, k2, ro2, hS2, sf2⟩
    obtain ⟨hmc, hk, hk2, hcd, hfn, hfrs, hto, hf, hlt⟩ := HO.out
    have t0 : w2.cell? ⟨w1.heap.size, 0, none⟩ = some (.int .i64 x.to) := (World.cell?_of_block (a := ⟨w1.heap.size, 0, none⟩) (ro2.2 _ (.inr rfl))).trans (by simp)
    obtain ⟨sv2, vv2, raws2, hf2⟩ := Frm.same hf h2 sf2 hfrs hk
    have z1 := hf2.frozen (k * 6 + 1)
    have f1 := hf2.cell 1 _ rfl
    have hi3 : IntKind.i64.wrap (x.to + 1) = x.to + 1 := IntWalk.i64_in _ (by omega)
    have hk' : C1.frs.length = k + 1 := by rw [hfrs]; exact hk
    obtain ⟨S3, L3, raws3, h3, k3, ro3, hS3, hf3⟩ := frame_numF h2 hf2 hk' (x.to + 1)
    have HOP := Lib.hid (op_c h3 hf3 hk2 f.fn.toNat (by show f.fn = _; omega) cd hcd x.to)
    have q5 := hf3.cell 5 _ rfl
    rw [hlt] at q5
    have y5 := hf3.frozen (k * 6 + 5)
    have ro1 := HR.out _ (Q.out.alloc (.cells #[.int .i64 x.to, .int .i64 x.ar, .int .i64 x.ht] 120))
    have hs3 := fun b hb => hS3 b (hS2 b (.inl hb))
    have hjm := HJ.out
    have hk3 : ({ s with c := setTop C1 { f with at_ := x.to + 1 } } : Ms).c.frs.length = k + 1 := by simp [setTop, hk']
    have ro3' := ro1.trans (ro2.trans ro3 hS2) (fun _ h => .inl h)
    have KK := k2.trans k3
    have FIN := Lib.hid (fun (n4 i : Nat) (hi : i ≤ f.lab.length) => To.trans KK ro3' hs3 (To.undrew (labs_cut (h3.drewN n4) (hf3.still ((Still.refl _).drewN n4)) hk3 i hi rfl)))
    have HM := Lib.hid hlt
    have HMC := Lib.hid hmc
    have HFN := Lib.hid hfn
    clear hmc hk hk2 hcd hfn hfrs hto hf hlt h2 k2 ro2 hS2 sf2 hf2 h3 k3 ro3 hS3 hf3 HLA HR HO l0 l1 l2 f5 hi1 hi2 hmin hiq HF Q b2 hs3 ro1 hk' hk3 ro3' KK hjm
    generalize w1.heap.size = tB at *
    go_wp2_with fail
    generalize w2.setCell ⟨fB, k * 6 + 1, none⟩ (.int .i64 (x.to + 1)) = w3 at *
    refine HOP.out.mono ?_
    rintro e w4 ⟨rfl, n4, rfl⟩
    have e : ((f.fn.toNat : Nat) : Int) = f.fn := by have := HFN.out; omega
    rw [e]
    clear e
    obtain ⟨i0, hi, _, hz1, _⟩ := info_parts infoLb
    have hss : ∀ l, setTop (setTop C1 { f with at_ := x.to + 1 }) { f with at_ := x.to + 1, lab := l } = setTop C1 { f with at_ := x.to + 1, lab := l } := fun l => by simp [setTop]
    have HSS := Lib.hid hss
    by_cases h3 : opM M f.fn x.to = 3
    · have d3 : (opM M f.fn x.to == 3) = true := by rw [h3]; rfl
      obtain rfl : 1 = z := by rw [← HZ.out, if_pos h3]
      have hcut := slice_to (P := Tryz.prog) (t := 116) Tryz.underlying116 hi (some ⟨lb, 0, none⟩) m c (j + 1) HJ.out HMC.out
      have hi4 : IntKind.i64.wrap ((j : Int) + 1) = ((j + 1 : Nat) : Int) := by rw [IntWalk.i64_in _ (by have := HLL.out; have := HJ.out; omega)]; omega
      have F2 := FIN.out n4 (j + 1) (by rw [HM.out]; exact HJ.out)
      rw [HSS.out] at F2
      have FF := Lib.hid F2
      clear F2 hss hi hz1 h3 t0 z1 f1 hi3 HZ HJ
      generalize hN : (j + 1 : Nat) = N at *
      have HN := Lib.hid hN
      clear hN
      go_wp2_with fail
      go_end0
      have hN := HN.out
      subst hN
      exact ⟨rfl, FF.out⟩
    · have d3 : (opM M f.fn x.to == 3) = false := beq_eq_false_iff_ne.2 h3
      obtain rfl : 0 = z := by rw [← HZ.out, if_neg h3]
      have hcut := slice_to (P := Tryz.prog) (t := 116) Tryz.underlying116 hi (some ⟨lb, 0, none⟩) m c j (by have := HJ.out; omega) HMC.out
      have F2 := FIN.out n4 j (by rw [HM.out]; have := HJ.out; omega)
      rw [HSS.out] at F2
      have FF := Lib.hid F2
      clear F2 hss hi hz1 h3 t0 z1 f1 hi3 HZ
      go_wp2_with fail
      go_end0
      exact ⟨rfl, FF.out⟩
/-- branches, told by branchC. -/
theorem branches_c (h : Md w S L u P M s) {k fB fc : Nat} {f : Fr} {sv vv lv bv : Value} {raws : List (Value × Value)} (hf : Frm w L u P s k f fB fc sv vv raws lv bv) (hk : s.c.frs.length = k + 1) (hk2 : k ≤ 1000000) (ok : FrOk f) (cd : Cd) (hcd : M.codes[f.fn.toNat]? = some cd) (hb : s.c.st.length ≤ 1000000000)
    (n : Nat) (hn : n < 4294967296) :
    Calls Tryz.prog 98 #[.pointer (some ⟨P.mB, 0, none⟩), .int .u32 (n : Int)] w fun e w' => e = .returned (.tuple #[]) ∧ To w S L u P M w' { s with c := branchC M s.c f n } := by
  have e : min (n : Int) 2147483647 = ((min n 2147483647 : Nat) : Int) := by omega
  rcases Nat.lt_trichotomy f.lab.length (min n 2147483647 + 1) with h0 | h0 | h0
  · rw [show branchC M s.c f n = endsC 17 from by unfold branchC; rw [e, if_pos (by omega)]]
    exact branches_stuck h hf hk2 ok n hn _ rfl h0
  · rw [show branchC M s.c f n = leaveC s.c f from by unfold branchC; rw [e, if_neg (by omega), if_pos (by omega)]]
    exact branches_last h hf hk hk2 ok hb n hn _ rfl h0
  · obtain ⟨j, hj⟩ : ∃ j, f.lab.length = min n 2147483647 + 1 + j := ⟨f.lab.length - (min n 2147483647 + 1), by omega⟩
    obtain ⟨x, hx⟩ : ∃ x, f.lab[j]? = some x := ⟨_, List.getElem?_eq_getElem (by omega)⟩
    exact branches_to h hf hk hk2 ok cd hcd hb n hn _ rfl j hj (by omega) x hx
end Go.Proofs.YtjbdldekllffkaaGreatDoor
