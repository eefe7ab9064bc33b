/- Lemmas of the walk, part 9. -/
import Derived.Test.YtmnebeikafigjaaGreatDoorJ8
import Derived.Test.YtmnebeikafigjaaGreatDoorJ7
import Derived.Deep.DeepCutAuto
import Derived.Laws.StructEq
import Derived.Laws.IdiomCopy
/- inst's New. -/
set_option linter.unusedVariables false
set_option linter.unusedSimpArgs false
namespace Go.Proofs.YtmnebeikafigjaaGreatDoor
open Go.RowKit Go.Sep Go.St
variable {w : World} {S : Nat → Prop} {L : Key → Option Ck} {u : Nat} {M : Mo} {mc : List Value}
def newI (M : Mo) (ess : List Es) : In := { blocks := ess.map getE, mem := memC M, tabs := tabsC M.tabs, glo := M.globs.map valueC, els := List.replicate M.elems.length false, das := List.replicate M.datas.length false }
/-- What a module must have for an instance to be made of it. -/
structure Fine (M : Mo) (ess : List Es) : Prop where
  mems : M.mems.length ≤ 1 ∧ ∀ x ∈ M.mems, x.min ≤ 1
  tabs : M.tabs.length ≤ 1000 ∧ ∀ x ∈ M.tabs, x.min ≤ 64
  len : ess.length = M.codes.length
  codes : M.codes.length ≤ 1000
  walk : ∀ (k : Nat) c es, M.codes[k]? = some c → ess[k]? = some es → WalkOk c.body es
def NewR (w : World) (S : Nat → Prop) (L : Key → Option Ck) (u : Nat) (M : Mo) (mc : List Value) (I : In) (e : Ending) (w' : World) : Prop :=
  ∃ iB S' L', e = .returned (.tuple #[.pointer (some ⟨iB, 0, none⟩), .int .i64 0]) ∧ Sm w' S' L' u iB M mc I ∧ Ro S w w' ∧ (∀ b, S b → S' b) ∧ ∀ q : Key, q.own ≠ some u → q ≠ .tmp 3 → L' q = L q
theorem rd_cell1 (w : World) (v : Value) (t : Nat) : Rd (w.alloc (.cells #[v] t)) 1 (some ⟨w.heap.size, 0, none⟩) 1 [v] := ⟨rfl, fun _ => ⟨_, rfl, rfl, fun j u hu => by
  cases j with
  | zero => simp at hu; subst hu; simp [Addr.add]
  | succ j => simp at hu⟩⟩
theorem with_world {P : Act → World → Prop} {a : Act} {W : World} (X : World → Prop) (h1 : X W) (h2 : X W → P a W) : P a W := h2 h1
set_option maxRecDepth 100000 in
set_option maxHeartbeats 4000000 in
theorem new_c (hs : Sep w S L) (hm : ModR w S M mc) (hw : Wf M) (k0 : L .mach = none) (k1 : L (.cfg u) = none) {xA : Option Addr} {xn xc : Nat} {st : Bool} {sn : Int} {cs : Bool} {cn : Int} (hx : Mx mc xA xn xc st sn cs cn) (ess : List Es) (hF : Fine M ess) :
    Calls Tryz.prog 61 #[.agg mc.toArray] w (NewR w S L u M mc (newI M ess)) := by
  obtain ⟨tA, fA, bA, mA, gA, eA, cA, dA, tc, fc, bc, mk, gc, ec, cc, dc, ⟨hmf⟩⟩ := hm.form hx
  have HST := Lib.hid (fun (w1 : World) (S1 : Nat → Prop) (hs1 : Sep w1 S1 L) (hm1 : ModR w1 S1 M mc) (ea : Bool) => mkr_start (u := u) hs1 hm1 hw k0 k1 (Below.refl _ _) ea)
  have HF := Lib.hid (And.intro hF hw)
  have HM := Lib.hid hm
  have HS := Lib.hid hs
  have he : M.elems.length ≤ 1000000 := by have := hw.elems.1; omega
  have hd : M.datas.length ≤ 1000000 := by have := hw.datas.1; omega
  have mkE := fun w => run_mk w 65 4 (.bool false) 1 Tryz.underlying65 infoBool rfl (by omega) M.elems.length he .i64 .i64
  have mkD := fun w => run_mk w 65 4 (.bool false) 1 Tryz.underlying65 infoBool rfl (by omega) M.datas.length hd .i64 .i64
  subst hmf
  clear hs hm hw k0 k1 hx hF he hd
  generalize hEN : M.elems.length = en at mkE
  generalize hDN : M.datas.length = dn at mkD
  rw [hEN, hDN] at HST HM
  go_enter Tryz.func61, Tryz.ntmps61
  go_wp2_with fail
  generalize hpB : w.heap.size = pB
  have b1 : Below w.heap.size w (w.alloc (.cells #[.slice tA M.types.length tc, .slice fA M.funcs.length fc, .slice bA M.tabs.length bc, .slice mA M.mems.length mk, .slice gA M.globs.length gc, .slice xA xn xc, .bool st, .int .u32 sn, .slice eA en ec, .bool cs, .int .u32 cn, .slice cA M.codes.length cc, .slice dA dn dc] 52)) := (Below.refl _ _).alloc (Nat.le_refl _) _
  generalize hw1 : w.alloc (.cells #[.slice tA M.types.length tc, .slice fA M.funcs.length fc, .slice bA M.tabs.length bc, .slice mA M.mems.length mk, .slice gA M.globs.length gc, .slice xA xn xc, .bool st, .int .u32 sn, .slice eA en ec, .bool cs, .int .u32 cn, .slice cA M.codes.length cc, .slice dA dn dc] 52) = w1 at *
  have p0 : w1.cell? ⟨pB, 0, none⟩ = some (.slice tA M.types.length tc) := by rw [← hw1, ← hpB]; simp
  have p1 : w1.cell? ⟨pB, 1, none⟩ = some (.slice fA M.funcs.length fc) := by rw [← hw1, ← hpB]; simp
  have p2 : w1.cell? ⟨pB, 2, none⟩ = some (.slice bA M.tabs.length bc) := by rw [← hw1, ← hpB]; simp
  have p3 : w1.cell? ⟨pB, 3, none⟩ = some (.slice mA M.mems.length mk) := by rw [← hw1, ← hpB]; simp
  have p4 : w1.cell? ⟨pB, 4, none⟩ = some (.slice gA M.globs.length gc) := by rw [← hw1, ← hpB]; simp
  have p5 : w1.cell? ⟨pB, 5, none⟩ = some (.slice xA xn xc) := by rw [← hw1, ← hpB]; simp
  have p6 : w1.cell? ⟨pB, 6, none⟩ = some (.bool st) := by rw [← hw1, ← hpB]; simp
  have p7 : w1.cell? ⟨pB, 7, none⟩ = some (.int .u32 sn) := by rw [← hw1, ← hpB]; simp
  have p8 : w1.cell? ⟨pB, 8, none⟩ = some (.slice eA en ec) := by rw [← hw1, ← hpB]; simp
  have p9 : w1.cell? ⟨pB, 9, none⟩ = some (.bool cs) := by rw [← hw1, ← hpB]; simp
  have p10 : w1.cell? ⟨pB, 10, none⟩ = some (.int .u32 cn) := by rw [← hw1, ← hpB]; simp
  have p11 : w1.cell? ⟨pB, 11, none⟩ = some (.slice cA M.codes.length cc) := by rw [← hw1, ← hpB]; simp
  have p12 : w1.cell? ⟨pB, 12, none⟩ = some (.slice dA dn dc) := by rw [← hw1, ← hpB]; simp
  have hlt : pB < w1.heap.size := World.block_lt_of_cell? _ _ p0
  have KEY := Lib.hid (show ∀ w', Below w1.heap.size w1 w' → w'.cell? ⟨pB, 0, none⟩ = some (.slice tA M.types.length tc) ∧ w'.cell? ⟨pB, 1, none⟩ = some (.slice fA M.funcs.length fc) ∧ w'.cell? ⟨pB, 2, none⟩ = some (.slice bA M.tabs.length bc) ∧ w'.cell? ⟨pB, 3, none⟩ = some (.slice mA M.mems.length mk) ∧ w'.cell? ⟨pB, 4, none⟩ = some (.slice gA M.globs.length gc) ∧ w'.cell? ⟨pB, 5, none⟩ = some (.slice xA xn xc) ∧ w'.cell? ⟨pB, 6, none⟩ = some (.bool st) ∧ w'.cell? ⟨pB, 7, none⟩ = some (.int .u32 sn) ∧ w'.cell? ⟨pB, 8, none⟩ = some (.slice eA en ec) ∧ w'.cell? ⟨pB, 9, none⟩ = some (.bool cs) ∧ w'.cell? ⟨pB, 10, none⟩ = some (.int .u32 cn) ∧ w'.cell? ⟨pB, 11, none⟩ = some (.slice cA M.codes.length cc) ∧ w'.cell? ⟨pB, 12, none⟩ = some (.slice dA dn dc) from fun w' hb => ⟨(hb.cell hlt).trans p0, (hb.cell hlt).trans p1, (hb.cell hlt).trans p2, (hb.cell hlt).trans p3, (hb.cell hlt).trans p4, (hb.cell hlt).trans p5, (hb.cell hlt).trans p6, (hb.cell hlt).trans p7, (hb.cell hlt).trans p8, (hb.cell hlt).trans p9, (hb.cell hlt).trans p10, (hb.cell hlt).trans p11, (hb.cell hlt).trans p12⟩)
  have HB := Lib.hid b1
  have HS1 := Lib.hid (show Sep w1 (fun b => S b ∨ b = pB) L from (HS.out.still b1.size b1.block).more (fun k c b e1 e2 hb => by
    rcases hb with hb | rfl
    · exact HS.out.ro k c b e1 e2 hb
    · have := Ck.lt (HS.out.holds k c e1) e2
      omega) (fun b hb => by
    rcases hb with hb | rfl
    · exact Nat.lt_of_lt_of_le (HS.out.lt b hb) b1.size
    · exact hlt))
  have ro01 : Ro S w w1 := ⟨⟨b1.size, b1.os, b1.output⟩, fun b hb => b1.block b (HS.out.lt b hb)⟩
  have HM1 := Lib.hid (HM.out.mono (S' := fun b => S b ∨ b = pB) ro01 (fun b hb => .inl hb))
  have HRO := Lib.hid ro01
  clear hpB hw1 b1 ro01
  refine wp_region_z (fun w' => w'.cell? ⟨pB, 0, none⟩ = some (.slice tA M.types.length tc) ∧ w'.cell? ⟨pB, 1, none⟩ = some (.slice fA M.funcs.length fc) ∧ w'.cell? ⟨pB, 2, none⟩ = some (.slice bA M.tabs.length bc) ∧ w'.cell? ⟨pB, 3, none⟩ = some (.slice mA M.mems.length mk) ∧ w'.cell? ⟨pB, 4, none⟩ = some (.slice gA M.globs.length gc) ∧ w'.cell? ⟨pB, 5, none⟩ = some (.slice xA xn xc) ∧ w'.cell? ⟨pB, 6, none⟩ = some (.bool st) ∧ w'.cell? ⟨pB, 7, none⟩ = some (.int .u32 sn) ∧ w'.cell? ⟨pB, 8, none⟩ = some (.slice eA en ec) ∧ w'.cell? ⟨pB, 9, none⟩ = some (.bool cs) ∧ w'.cell? ⟨pB, 10, none⟩ = some (.int .u32 cn) ∧ w'.cell? ⟨pB, 11, none⟩ = some (.slice cA M.codes.length cc) ∧ w'.cell? ⟨pB, 12, none⟩ = some (.slice dA dn dc)) (fun j => j == 11 || j == 12) (by kernel_rfl) ?_ (fun hHeld => ?_)
  · first | exact KEY.out _ (Below.refl _ _).drew | exact KEY.out _ ((Below.refl _ _).drew.alloc (Nat.le_refl _) _) | exact KEY.out _ (((Below.refl _ _).drew.alloc (Nat.le_refl _) _).alloc (by simp) _)
  (refine wpZ_take (i := 0) (oi := ⟨some 7, .load 52 (.tmp 1), 52, _, _, none⟩) (v := ?_) rfl (by kernel_rfl) (fun _ _ _ h => h) (by assumption) (Or.inl ⟨by rfl, ?_⟩) ?_; rotate_left 1; · ((intro w hSw; (try dsimp only at hSw); go_split_ands; go_simp) <;> (try with_reducible rfl)))
  try simp only [Act.put, List.setIfInBounds_toArray, List.set_cons_zero, List.set_cons_succ]
  (refine wpZ_take (i := 1) (oi := ⟨some 8, .fieldAddr 52 (.tmp 1) 8, 0, _, _, none⟩) (v := ?_) rfl (by kernel_rfl) (fun _ _ _ h => h) (by assumption) (Or.inl ⟨by rfl, ?_⟩) ?_; rotate_left 1; · ((intro w hSw; (try dsimp only at hSw); go_split_ands; go_simp) <;> (try with_reducible rfl)))
  try simp only [Act.put, List.setIfInBounds_toArray, List.set_cons_zero, List.set_cons_succ]
  (refine wpZ_take (i := 2) (oi := ⟨some 9, .load 50 (.tmp 8), 50, _, _, none⟩) (v := ?_) rfl (by kernel_rfl) (fun _ _ _ h => h) (by assumption) (Or.inl ⟨by rfl, ?_⟩) ?_; rotate_left 1; · ((intro w hSw; (try dsimp only at hSw); go_split_ands; go_simp) <;> (try with_reducible rfl)))
  try simp only [Act.put, List.setIfInBounds_toArray, List.set_cons_zero, List.set_cons_succ]
  (refine wpZ_take (i := 3) (oi := ⟨some 10, .call { callee := .builtin .len, args := #[.tmp 9], argTypes := #[50] }, 3, _, _, none⟩) (v := ?_) rfl (by kernel_rfl) (fun _ _ _ h => h) (by assumption) (Or.inl ⟨by rfl, ?_⟩) ?_; rotate_left 1; · ((intro w hSw; (try dsimp only at hSw); go_split_ands; go_simp) <;> (try with_reducible rfl)))
  try simp only [Act.put, List.setIfInBounds_toArray, List.set_cons_zero, List.set_cons_succ]
  (refine wpZ_take (i := 5) (oi := ⟨some 12, .fieldAddr 52 (.tmp 1) 12, 0, _, _, none⟩) (v := ?_) rfl (by kernel_rfl) (fun _ _ _ h => h) (by assumption) (Or.inl ⟨by rfl, ?_⟩) ?_; rotate_left 1; · ((intro w hSw; (try dsimp only at hSw); go_split_ands; go_simp) <;> (try with_reducible rfl)))
  try simp only [Act.put, List.setIfInBounds_toArray, List.set_cons_zero, List.set_cons_succ]
  (refine wpZ_take (i := 6) (oi := ⟨some 13, .load 46 (.tmp 12), 46, _, _, none⟩) (v := ?_) rfl (by kernel_rfl) (fun _ _ _ h => h) (by assumption) (Or.inl ⟨by rfl, ?_⟩) ?_; rotate_left 1; · ((intro w hSw; (try dsimp only at hSw); go_split_ands; go_simp) <;> (try with_reducible rfl)))
  try simp only [Act.put, List.setIfInBounds_toArray, List.set_cons_zero, List.set_cons_succ]
  (refine wpZ_take (i := 7) (oi := ⟨some 14, .call { callee := .builtin .len, args := #[.tmp 13], argTypes := #[46] }, 3, _, _, none⟩) (v := ?_) rfl (by kernel_rfl) (fun _ _ _ h => h) (by assumption) (Or.inl ⟨by rfl, ?_⟩) ?_; rotate_left 1; · ((intro w hSw; (try dsimp only at hSw); go_split_ands; go_simp) <;> (try with_reducible rfl)))
  try simp only [Act.put, List.setIfInBounds_toArray, List.set_cons_zero, List.set_cons_succ]
  refine wpZ_two (i := 4) (j := 8) (oi := ⟨some 11, .makeSlice 65 (.tmp 10) (.tmp 10), 65, _, _, none⟩) (oj := ⟨some 15, .makeSlice 65 (.tmp 14) (.tmp 14), 65, _, _, none⟩) rfl rfl (by kernel_rfl) (fun K hK => ?_) (fun K hK => ?_)
  ·
    go_simp
    refine hK.out _ _ (fun _ => by (first | exact KEY.out _ (Below.refl _ _).drew | exact KEY.out _ ((Below.refl _ _).drew.alloc (Nat.le_refl _) _) | exact KEY.out _ (((Below.refl _ _).drew.alloc (Nat.le_refl _) _).alloc (by simp) _))) (fun hh => ?_)
    have hHeld := hh rfl
    clear hK K
    try simp only [Act.put, List.setIfInBounds_toArray, List.set_cons_zero, List.set_cons_succ]
    refine wpZ_one (i := 8) (oi := ⟨some 15, .makeSlice 65 (.tmp 14) (.tmp 14), 65, _, _, none⟩) rfl (by kernel_rfl) (fun K hK => ?_)
    go_simp
    refine hK.out _ _ (fun _ => by (first | exact KEY.out _ (Below.refl _ _).drew | exact KEY.out _ ((Below.refl _ _).drew.alloc (Nat.le_refl _) _) | exact KEY.out _ (((Below.refl _ _).drew.alloc (Nat.le_refl _) _).alloc (by simp) _))) (fun hh => ?_)
    have hHeld := hh rfl
    clear hK K
    try simp only [Act.put, List.setIfInBounds_toArray, List.set_cons_zero, List.set_cons_succ]
    (refine wpZ_take (i := 9) (oi := ⟨some 16, .build 67 #[(0, .tmp 7), (5, .tmp 11), (6, .tmp 15)], 67, _, _, none⟩) (v := ?_) rfl (by kernel_rfl) (fun _ _ _ h => h) (by assumption) (Or.inl ⟨by rfl, ?_⟩) ?_; rotate_left 1; · ((intro w hSw; (try dsimp only at hSw); go_split_ands; go_simp) <;> (try with_reducible rfl)))
    try simp only [Act.put, List.setIfInBounds_toArray, List.set_cons_zero, List.set_cons_succ]
    (refine wpZ_take (i := 10) (oi := ⟨some 17, .build 193 #[(0, .tmp 16)], 193, _, _, none⟩) (v := ?_) rfl (by kernel_rfl) (fun _ _ _ h => h) (by assumption) (Or.inl ⟨by rfl, ?_⟩) ?_; rotate_left 1; · ((intro w hSw; (try dsimp only at hSw); go_split_ands; go_simp) <;> (try with_reducible rfl)))
    try simp only [Act.put, List.setIfInBounds_toArray, List.set_cons_zero, List.set_cons_succ]
    refine wpZ_one (i := 11) (oi := ⟨some 18, .box 193 (.tmp 17), 191, _, _, none⟩) rfl (by kernel_rfl) (fun K hK => ?_)
    go_simp
    refine hK.out _ _ (fun h => by simp at h) (fun _ => ?_)
    clear hK K
    try simp only [Act.put, List.setIfInBounds_toArray, List.set_cons_zero, List.set_cons_succ]
    refine wpZ_one (i := 12) (oi := ⟨some 4, .assign (.tmp 18), 191, _, _, none⟩) rfl (by kernel_rfl) (fun K hK => ?_)
    go_simp
    refine hK.out _ _ (fun h => by simp at h) (fun _ => ?_)
    clear hK K
    try simp only [Act.put, List.setIfInBounds_toArray, List.set_cons_zero, List.set_cons_succ]
    refine wpZ_done (by kernel_rfl) ?_ _
    refine with_world (fun W => ∃ ev dv : Value, ∃ L3, Mkr W (fun b => S b ∨ b = pB) L3 u (w1.heap.size + 1 + 1) M [.slice tA M.types.length tc, .slice fA M.funcs.length fc, .slice bA M.tabs.length bc, .slice mA M.mems.length mk, .slice gA M.globs.length gc, .slice xA xn xc, .bool st, .int .u32 sn, .slice eA en ec, .bool cs, .int .u32 cn, .slice cA M.codes.length cc, .slice dA dn dc] (.slice none 0 0) (.slice none 0 0) (.slice none 0 0) (.slice none 0 0) ev dv [.int .i64 0] [] (inst0 M) ∧ Ro (fun b => S b ∨ b = pB) w1 W ∧ ∀ q : Key, q.own ≠ some u → q ≠ .tmp 3 → L3 q = L q) ?_ ?_
    · first
        | (obtain ⟨L3, h3⟩ := HST.out w1 _ HS1.out HM1.out true _ _ _ (.inl ⟨rfl, rfl, rfl, rfl⟩); rw [show ((w1.alloc (.cells (Array.replicate en (.bool false)) 4)).alloc (.cells (Array.replicate dn (.bool false)) 4)).heap.size = w1.heap.size + 1 + 1 by simp] at h3; exact ⟨_, _, L3, h3.1.still ((Below.refl _ _).drew), h3.2.1, h3.2.2⟩)
        | (obtain ⟨L3, h3⟩ := HST.out w1 _ HS1.out HM1.out false _ _ _ (.inr ⟨rfl, rfl, rfl, rfl⟩); rw [show ((w1.alloc (.cells (Array.replicate dn (.bool false)) 4)).alloc (.cells (Array.replicate en (.bool false)) 4)).heap.size = w1.heap.size + 1 + 1 by simp] at h3; exact ⟨_, _, L3, h3.1.still ((Below.refl _ _).drew), h3.2.1, h3.2.2⟩)
    · generalize w1.heap.size + 1 + 1 = iB
      clear hHeld
      first
        | (generalize (((w1.alloc (.cells (Array.replicate en (.bool false)) 4)).alloc (.cells (Array.replicate dn (.bool false)) 4)).alloc _).drew = w4)
        | (generalize (((w1.alloc (.cells (Array.replicate dn (.bool false)) 4)).alloc (.cells (Array.replicate en (.bool false)) 4)).alloc _).drew = w4)
      clear KEY mkE mkD p0 p1 p2 p3 p5 p6 p7 p8 p9 p10 p11 p12
      rintro ⟨ev, dv, L3, h3, ro3, hk3⟩
      have H3 := Lib.hid (And.intro h3 (And.intro ro3 hk3))
      have HRM := Lib.hid (room_c h3 ⟨rfl, rfl⟩ HF.out.1.mems HF.out.1.tabs)
      clear h3 ro3 hk3
      go_wp2_with fail
      refine HRM.out.mono ?_
      rintro e w5 ⟨rfl, mv5, tv5, L5, h5, ro5, hk5⟩
      have H5 := Lib.hid (And.intro h5 (And.intro ro5 hk5))
      have HBL := Lib.hid (mblocks_c h5 ess HF.out.1.len HF.out.1.codes HF.out.1.walk)
      clear h5 ro5 hk5
      go_wp2_with fail
      refine HBL.out.mono ?_
      rintro e w6 ⟨rfl, bv6, S6, L6, h6, ro6, hS6, hk6⟩
      have H6 := Lib.hid (And.intro h6 (And.intro ro6 (And.intro hS6 hk6)))
      have i19 : w6.cell? ⟨iB, 19, none⟩ = some (.int .i64 0) := h6.cell 19 _ (h6.tail 6)
      have hro : Ro (fun b => S b ∨ b = pB) w1 w6 := (H3.out.2.1.trans' H5.out.2.1).trans' ro6
      have i4 : w6.cell? ⟨pB, 4, none⟩ = some (.slice gA M.globs.length gc) := (World.cell?_of_block (a := ⟨pB, 4, none⟩) (hro.2 pB (.inr rfl))).trans p4
      obtain ⟨v4, hv4, hgr⟩ := h6.mod.globs
      cases hv4
      have HG := Lib.hid hgr
      have HRO2 := Lib.hid hro
      have H7 := Lib.hid (show Mkr w6 S6 L6 u iB M [.slice tA M.types.length tc, .slice fA M.funcs.length fc, .slice bA M.tabs.length bc, .slice mA M.mems.length mk, .slice gA M.globs.length gc, .slice xA xn xc, .bool st, .int .u32 sn, .slice eA en ec, .bool cs, .int .u32 cn, .slice cA M.codes.length cc, .slice dA dn dc] bv6 mv5 tv5 (.slice none 0 0) ev dv [.int .i64 0] ess { (inst0 M) with mem := memC M, tabs := tabsC M.tabs, glo := (M.globs.take 0).map valueC } from h6)
      clear h6 ro6 hS6 hk6 hgr hro p4
      go_wp2_with fail
      go_loopw [35] (fun i wr => ∃ n : Nat, n ≤ M.globs.length ∧ i = .int .i64 n ∧ ∃ gv L', Mkr wr S6 L' u iB M [.slice tA M.types.length tc, .slice fA M.funcs.length fc, .slice bA M.tabs.length bc, .slice mA M.mems.length mk, .slice gA M.globs.length gc, .slice xA xn xc, .bool st, .int .u32 sn, .slice eA en ec, .bool cs, .int .u32 cn, .slice cA M.codes.length cc, .slice dA dn dc] bv6 mv5 tv5 gv ev dv [.int .i64 0] ess { (inst0 M) with mem := memC M, tabs := tabsC M.tabs, glo := (M.globs.take n).map valueC } ∧ Ro S6 w6 wr ∧ ∀ q : Key, q ≠ .glo u → q ≠ .ins u → L' q = L6 q) (fun i _ => M.globs.length - (intOf i).toNat)
      case atStart => exact ⟨0, Nat.zero_le _, rfl, _, L6, H7.out, Ro.refl _ _, fun _ _ _ => rfl⟩
      case round =>
        obtain ⟨n, hn, rfl, gv, L8, h8, ro8, hk8⟩ := hrel
        by_cases hlt : n < M.globs.length
        · have hx : M.globs[n]? = some M.globs[n] := List.getElem?_eq_getElem hlt
          generalize M.globs[n] = x at hx
          have hg8 := HG.out.mono ro8 (fun _ h => h) (fun _ _ h => h.mono ro8 (fun _ h => h))
          obtain ⟨g, o, cs1, rfl, hSg, _, ⟨ty, mu, iv, rfl, hiv⟩, hcs⟩ := hg8.get n x hx
          obtain ⟨iA, ic, rfl, _, _, _, _⟩ := id hiv
          have k0 := hcs 0 _ rfl
          have k1 := hcs 1 _ rfl
          have k2 := hcs 2 _ rfl
          rw [Nat.add_zero] at k0
          have hi : IntKind.i64.wrap ((n : Int) + 1) = (n : Int) + 1 := IntWalk.i64_in _ (by have := HF.out.2.globs.1; omega)
          have i1 : decide ((n : Int) < (M.globs.length : Int)) = true := decide_eq_true (by omega)
          have bel2 : Below wr.heap.size wr (wr.alloc (.cells #[.int .u8 ty, .bool mu, .slice iA x.length ic] 121)) := (Below.refl _ _).alloc (Nat.le_refl _) _
          have h9 := h8.still bel2
          have hiv2 := hiv.mono (S := S6) (S' := S6) (w' := (wr.alloc (.cells #[.int .u8 ty, .bool mu, .slice iA x.length ic] 121)).drew) ⟨⟨bel2.size, bel2.os, bel2.output⟩, fun b hb => bel2.block b (h8.sep.lt b hb)⟩ (fun _ h => h) (fun _ _ hh => hh.mono ⟨⟨bel2.size, bel2.os, bel2.output⟩, fun b hb => bel2.block b (h8.sep.lt b hb)⟩ (fun _ h => h))
          have HV := Lib.hid (value_c _ S6 _ x hiv2 (HF.out.2.globs.2 x (List.mem_of_getElem? hx)))
          obtain ⟨A1, m1, kk1, rfl, _, _, hxl, _⟩ := Row.rd (h9.sep.holds _ _ h9.glo)
          have hgx := Lib.hid (show ((M.globs.take (n + 1)).map valueC) = ((M.globs.take n).map valueC) ++ [valueC x] by rw [List.take_add_one, hx]; simp)
          have i16 : (wr.alloc (.cells #[.int .u8 ty, .bool mu, .slice iA x.length ic] 121)).cell? ⟨iB, 16, none⟩ = some (.slice A1 m1 kk1) := h9.cell 16 _ (h9.tail 3)
          have tB2 : (wr.alloc (.cells #[.int .u8 ty, .bool mu, .slice iA x.length ic] 121)).cell? ⟨wr.heap.size, 2, none⟩ = some (.slice iA x.length ic) := by simp
          have hrb : rowBlock (.slice A1 m1 kk1) ≠ some wr.heap.size := by
            intro hh
            have := Ck.lt (h8.sep.holds _ _ h8.glo) hh
            omega
          have HX := Lib.hid (And.intro h8 (And.intro ro8 (And.intro hk8 (And.intro hrb bel2))))
          have HLN := Lib.hid (show (M.globs.take n).length ≤ 1000 by have := HF.out.2.globs.1; simp; omega)
          clear h8 ro8 hk8 hrb bel2 hg8 hSg hcs hiv hiv2 hx hxl hn
          rename_i y1 y2 y3 y4 y5 y6 y7
          clear y1 y2 y3 y4 y5 y6 y7
          generalize hwb : wr.alloc (.cells #[.int .u8 ty, .bool mu, .slice iA x.length ic] 121) = w9 at h9 i16 tB2 HV HX
          have KEY := Lib.hid (show ∀ w', Below w9.heap.size w9 w' → w'.cell? ⟨iB, 16, none⟩ = some (.slice A1 m1 kk1) ∧ w'.cell? ⟨wr.heap.size, 2, none⟩ = some (.slice iA x.length ic) from fun w' hb => ⟨(hb.cell (World.block_lt_of_cell? _ _ i16)).trans i16, (hb.cell (World.block_lt_of_cell? _ _ tB2)).trans tB2⟩)
          have H9 := Lib.hid h9
          clear h9
          have HBY := Lib.hid (show ((ints .u64 ((M.globs.take n).map valueC)).length + 1) * 8 ≤ 140737488355328 from by rw [ints_len, List.length_map]; have := HLN.out; omega)
          have HO1 := Lib.hid (show ∀ z ∈ [Value.int .u64 (valueC x)], z.oneCell' = true by simp [Value.oneCell'])
          go_wp2_with fail
          refine wp_region_z (fun w' => w'.cell? ⟨iB, 16, none⟩ = some (.slice A1 m1 kk1) ∧ w'.cell? ⟨wr.heap.size, 2, none⟩ = some (.slice iA x.length ic)) (fun j => j == 11 || j == 12 || j == 13 || j == 14) (by kernel_rfl) ?_ (fun hHeld => ?_)
          · first | exact KEY.out _ (Below.refl _ _).drew | exact KEY.out _ HB3.out | exact KEY.out _ HB4.out | exact ⟨c16, ct⟩
          (refine wpZ_take (i := 0) (oi := ⟨some 39, .move (.tmp 4), 191, _, _, none⟩) (v := ?_) rfl (by kernel_rfl) (fun _ _ _ h => h) (by assumption) (Or.inl ⟨by rfl, ?_⟩) ?_; rotate_left 1; · ((intro w hSw; (try dsimp only at hSw); go_split_ands; go_simp) <;> (try with_reducible rfl)))
          try simp only [Act.put, List.setIfInBounds_toArray, List.set_cons_zero, List.set_cons_succ]
          (refine wpZ_take (i := 1) (oi := ⟨some 40, .move (.tmp 4), 191, _, _, none⟩) (v := ?_) rfl (by kernel_rfl) (fun _ _ _ h => h) (by assumption) (Or.inl ⟨by rfl, ?_⟩) ?_; rotate_left 1; · ((intro w hSw; (try dsimp only at hSw); go_split_ands; go_simp) <;> (try with_reducible rfl)))
          try simp only [Act.put, List.setIfInBounds_toArray, List.set_cons_zero, List.set_cons_succ]
          (refine wpZ_take (i := 2) (oi := ⟨some 41, .nilCheck (.tmp 40), 0, _, _, none⟩) (v := ?_) rfl (by kernel_rfl) (fun _ _ _ h => h) (by assumption) (Or.inl ⟨by rfl, ?_⟩) ?_; rotate_left 1; · ((intro w hSw; (try dsimp only at hSw); go_split_ands; go_simp) <;> (try with_reducible rfl)))
          try simp only [Act.put, List.setIfInBounds_toArray, List.set_cons_zero, List.set_cons_succ]
          (refine wpZ_take (i := 3) (oi := ⟨some 42, .fieldAddr 193 (.tmp 41) 0, 0, _, _, none⟩) (v := ?_) rfl (by kernel_rfl) (fun _ _ _ h => h) (by assumption) (Or.inl ⟨by rfl, ?_⟩) ?_; rotate_left 1; · ((intro w hSw; (try dsimp only at hSw); go_split_ands; go_simp) <;> (try with_reducible rfl)))
          try simp only [Act.put, List.setIfInBounds_toArray, List.set_cons_zero, List.set_cons_succ]
          (refine wpZ_take (i := 4) (oi := ⟨some 43, .fieldAddr 67 (.tmp 42) 4, 0, _, _, none⟩) (v := ?_) rfl (by kernel_rfl) (fun _ _ _ h => h) (by assumption) (Or.inl ⟨by rfl, ?_⟩) ?_; rotate_left 1; · ((intro w hSw; (try dsimp only at hSw); go_split_ands; go_simp) <;> (try with_reducible rfl)))
          try simp only [Act.put, List.setIfInBounds_toArray, List.set_cons_zero, List.set_cons_succ]
          (refine wpZ_take (i := 5) (oi := ⟨some 44, .load 57 (.tmp 43), 57, _, _, none⟩) (v := ?_) rfl (by kernel_rfl) (fun _ _ _ h => h) (by assumption) (Or.inl ⟨by rfl, ?_⟩) ?_; rotate_left 1; · ((intro w hSw; (try dsimp only at hSw); go_split_ands; go_simp) <;> (try with_reducible rfl)))
          try simp only [Act.put, List.setIfInBounds_toArray, List.set_cons_zero, List.set_cons_succ]
          (refine wpZ_take (i := 6) (oi := ⟨some 45, .fieldAddr 121 (.tmp 6) 2, 0, _, _, none⟩) (v := ?_) rfl (by kernel_rfl) (fun _ _ _ h => h) (by assumption) (Or.inl ⟨by rfl, ?_⟩) ?_; rotate_left 1; · ((intro w hSw; (try dsimp only at hSw); go_split_ands; go_simp) <;> (try with_reducible rfl)))
          try simp only [Act.put, List.setIfInBounds_toArray, List.set_cons_zero, List.set_cons_succ]
          (refine wpZ_take (i := 7) (oi := ⟨some 46, .load 24 (.tmp 45), 24, _, _, none⟩) (v := ?_) rfl (by kernel_rfl) (fun _ _ _ h => h) (by assumption) (Or.inl ⟨by rfl, ?_⟩) ?_; rotate_left 1; · ((intro w hSw; (try dsimp only at hSw); go_split_ands; go_simp) <;> (try with_reducible rfl)))
          try simp only [Act.put, List.setIfInBounds_toArray, List.set_cons_zero, List.set_cons_succ]
          refine wpZ_one (i := 8) (oi := ⟨some 47, .call { callee := .value (.func 112), args := #[.tmp 46], argTypes := #[24] }, 26, _, _, none⟩) rfl (by kernel_rfl) (fun K hK => ?_)
          go_simp; refine HV.out.mono ?_; rintro e w3 ⟨rfl, hb3⟩; have HB3 := Lib.hid (below_then (Below.refl w9.heap.size w9).drew hb3); have HB4 := Lib.hid (HB3.out.alloc HB3.out.size (.cells #[.int .u64 (valueC x)] 26)); have H10 := Lib.hid (H9.out.still HB4.out); have RD := Lib.hid (show Rd (w3.alloc (.cells #[.int .u64 (valueC x)] 26)) 1 (some ⟨w3.heap.size, 0, none⟩) 1 [.int .u64 (valueC x)] from rd_cell1 _ _ _); clear hb3 HV
          refine hK.out _ _ (fun _ => by (first | exact KEY.out _ (Below.refl _ _).drew | exact KEY.out _ HB3.out | exact KEY.out _ HB4.out | exact ⟨c16, ct⟩)) (fun hh => ?_)
          have hHeld := hh rfl
          clear hK K
          try simp only [Act.put, List.setIfInBounds_toArray, List.set_cons_zero, List.set_cons_succ]
          refine wpZ_one (i := 9) (oi := ⟨some 48, .buildSlice 57 1 #[(0, .tmp 47)], 57, _, _, none⟩) rfl (by kernel_rfl) (fun K hK => ?_)
          go_simp
          refine hK.out _ _ (fun _ => by (first | exact KEY.out _ (Below.refl _ _).drew | exact KEY.out _ HB3.out | exact KEY.out _ HB4.out | exact ⟨c16, ct⟩)) (fun hh => ?_)
          have hHeld := hh rfl
          clear hK K
          try simp only [Act.put, List.setIfInBounds_toArray, List.set_cons_zero, List.set_cons_succ]
          refine wpZ_one (i := 10) (oi := ⟨some 49, .call { callee := .builtin .append, args := #[.tmp 44, .tmp 48], argTypes := #[57, 57] }, 57, _, _, none⟩) rfl (by kernel_rfl) (fun K hK => ?_)
          refine step_append_row (by rfl) _ _ _ (by rfl) 26 1 _ 8 Tryz.underlying57 infoU64 rfl (by omega) (by omega) (.slice A1 m1 kk1) (ints .u64 ((M.globs.take n).map valueC)) (by rfl) (some ⟨w3.heap.size, 0, none⟩) 1 1 [.int .u64 (valueC x)] (by rfl) (H10.out.sep.holds _ _ H10.out.glo) RD.out HO1.out HBY.out ?_; intro B1 m2 c3 w5 hr1 hg1 ha1; obtain ⟨L5', h5, ro5, hk5, c16, z16⟩ := H10.out.glob (x := valueC x) (by have := hr1.out; rwa [show ints .u64 ((M.globs.take n).map valueC) ++ [.int .u64 (valueC x)] = ints .u64 ((M.globs.take n).map valueC ++ [valueC x]) by simp [ints]] at this) hg1.out ha1.out; have ct : w5.cell? ⟨wr.heap.size, 2, none⟩ = some (.slice iA x.length ic) := hg1.out.cell (KEY.out _ HB4.out).2 (by simpa using fun e => HX.out.2.2.2.1 e.symm); have H11 := Lib.hid (And.intro h5 (And.intro ro5 hk5)); clear h5 ro5 hk5 hr1 hg1 ha1
          refine hK.out _ _ (fun _ => by (first | exact KEY.out _ (Below.refl _ _).drew | exact KEY.out _ HB3.out | exact KEY.out _ HB4.out | exact ⟨c16, ct⟩)) (fun hh => ?_)
          have hHeld := hh rfl
          clear hK K
          try simp only [Act.put, List.setIfInBounds_toArray, List.set_cons_zero, List.set_cons_succ]
          refine wpZ_one (i := 11) (oi := ⟨some 50, .nilCheck (.tmp 39), 0, _, _, none⟩) rfl (by kernel_rfl) (fun K hK => ?_)
          go_simp
          refine hK.out _ _ (fun h => by simp at h) (fun _ => ?_)
          clear hK K
          try simp only [Act.put, List.setIfInBounds_toArray, List.set_cons_zero, List.set_cons_succ]
          refine wpZ_one (i := 12) (oi := ⟨some 51, .fieldAddr 193 (.tmp 50) 0, 0, _, _, none⟩) rfl (by kernel_rfl) (fun K hK => ?_)
          go_simp
          refine hK.out _ _ (fun h => by simp at h) (fun _ => ?_)
          clear hK K
          try simp only [Act.put, List.setIfInBounds_toArray, List.set_cons_zero, List.set_cons_succ]
          refine wpZ_one (i := 13) (oi := ⟨some 52, .fieldAddr 67 (.tmp 51) 4, 0, _, _, none⟩) rfl (by kernel_rfl) (fun K hK => ?_)
          go_simp
          refine hK.out _ _ (fun h => by simp at h) (fun _ => ?_)
          clear hK K
          try simp only [Act.put, List.setIfInBounds_toArray, List.set_cons_zero, List.set_cons_succ]
          refine wpZ_one (i := 14) (oi := ⟨none, .store 57 (.tmp 52) (.tmp 49), 0, _, _, none⟩) rfl (by kernel_rfl) (fun K hK => ?_)
          go_simp
          refine hK.out _ _ (fun h => by simp at h) (fun _ => ?_)
          clear hK K
          try simp only [Act.put, List.setIfInBounds_toArray, List.set_cons_zero, List.set_cons_succ]
          refine wpZ_done (by kernel_rfl) ?_ _
          go_wp2
          go_roundw
          case rel =>
            refine ⟨n + 1, hlt, by go_num, .slice B1 m2 c3, L5', by rw [hgx.out]; exact H11.out.1, ?_, fun q a b => (H11.out.2.2 q a b).trans (HX.out.2.2.1 q a b)⟩
            have b9 := HX.out.2.2.2.2
            have r1 : Ro S6 wr w9 := ⟨⟨b9.size, b9.os, b9.output⟩, fun b hb => b9.block b (HX.out.1.sep.lt b hb)⟩
            have b4 := HB4.out
            have r2 : Ro S6 w9 (w3.alloc (.cells #[.int .u64 (valueC x)] 26)) := ⟨⟨b4.size, b4.os, b4.output⟩, fun b hb => b4.block b (H9.out.sep.lt b hb)⟩
            exact ((HX.out.2.1.trans' r1).trans' r2).trans' H11.out.2.1
          case measure => (simp [intOf]; try omega)
        · obtain rfl : n = M.globs.length := by omega
          have hd0 : decide ((M.globs.length : Int) < (M.globs.length : Int)) = false := decide_eq_false (by omega)
          have H8 := Lib.hid (And.intro h8 (And.intro ro8 hk8))
          clear h8 ro8 hk8 hlt hn
          go_wp2
          go_ret2
          obtain ⟨S9, L9, hsm, hS9, hk9⟩ := H8.out.1.done
          refine ⟨iB, S9, L9, rfl, ?_, (HRO.out.trans HRO2.out (fun b hb => .inl hb)).trans H8.out.2.1 (fun b hb => H6.out.2.2.1 b (.inl hb)), fun b hb => hS9 b (H6.out.2.2.1 b (.inl hb)), fun q h1 h2 => ?_⟩
          · rw [List.take_length] at hsm
            exact hsm
          · have nq : ∀ k : Key, k.own = some u → q ≠ k := fun k hk e => h1 (e ▸ hk)
            rw [hk9 q h2 (nq _ rfl), H8.out.2.2 q (nq _ rfl) (nq _ rfl), H6.out.2.2.2 q h2 (nq _ rfl), H5.out.2.2 q (fun k => nq _ rfl) (nq _ rfl) (nq _ rfl) (nq _ rfl), H3.out.2.2 q h1 h2]
  ·
    go_simp
    refine hK.out _ _ (fun _ => by (first | exact KEY.out _ (Below.refl _ _).drew | exact KEY.out _ ((Below.refl _ _).drew.alloc (Nat.le_refl _) _) | exact KEY.out _ (((Below.refl _ _).drew.alloc (Nat.le_refl _) _).alloc (by simp) _))) (fun hh => ?_)
    have hHeld := hh rfl
    clear hK K
    try simp only [Act.put, List.setIfInBounds_toArray, List.set_cons_zero, List.set_cons_succ]
    refine wpZ_one (i := 4) (oi := ⟨some 11, .makeSlice 65 (.tmp 10) (.tmp 10), 65, _, _, none⟩) rfl (by kernel_rfl) (fun K hK => ?_)
    go_simp
    refine hK.out _ _ (fun _ => by (first | exact KEY.out _ (Below.refl _ _).drew | exact KEY.out _ ((Below.refl _ _).drew.alloc (Nat.le_refl _) _) | exact KEY.out _ (((Below.refl _ _).drew.alloc (Nat.le_refl _) _).alloc (by simp) _))) (fun hh => ?_)
    have hHeld := hh rfl
    clear hK K
    try simp only [Act.put, List.setIfInBounds_toArray, List.set_cons_zero, List.set_cons_succ]
    (refine wpZ_take (i := 9) (oi := ⟨some 16, .build 67 #[(0, .tmp 7), (5, .tmp 11), (6, .tmp 15)], 67, _, _, none⟩) (v := ?_) rfl (by kernel_rfl) (fun _ _ _ h => h) (by assumption) (Or.inl ⟨by rfl, ?_⟩) ?_; rotate_left 1; · ((intro w hSw; (try dsimp only at hSw); go_split_ands; go_simp) <;> (try with_reducible rfl)))
    try simp only [Act.put, List.setIfInBounds_toArray, List.set_cons_zero, List.set_cons_succ]
    (refine wpZ_take (i := 10) (oi := ⟨some 17, .build 193 #[(0, .tmp 16)], 193, _, _, none⟩) (v := ?_) rfl (by kernel_rfl) (fun _ _ _ h => h) (by assumption) (Or.inl ⟨by rfl, ?_⟩) ?_; rotate_left 1; · ((intro w hSw; (try dsimp only at hSw); go_split_ands; go_simp) <;> (try with_reducible rfl)))
    try simp only [Act.put, List.setIfInBounds_toArray, List.set_cons_zero, List.set_cons_succ]
    refine wpZ_one (i := 11) (oi := ⟨some 18, .box 193 (.tmp 17), 191, _, _, none⟩) rfl (by kernel_rfl) (fun K hK => ?_)
    go_simp
    refine hK.out _ _ (fun h => by simp at h) (fun _ => ?_)
    clear hK K
    try simp only [Act.put, List.setIfInBounds_toArray, List.set_cons_zero, List.set_cons_succ]
    refine wpZ_one (i := 12) (oi := ⟨some 4, .assign (.tmp 18), 191, _, _, none⟩) rfl (by kernel_rfl) (fun K hK => ?_)
    go_simp
    refine hK.out _ _ (fun h => by simp at h) (fun _ => ?_)
    clear hK K
    try simp only [Act.put, List.setIfInBounds_toArray, List.set_cons_zero, List.set_cons_succ]
    refine wpZ_done (by kernel_rfl) ?_ _
    refine with_world (fun W => ∃ ev dv : Value, ∃ L3, Mkr W (fun b => S b ∨ b = pB) L3 u (w1.heap.size + 1 + 1) M [.slice tA M.types.length tc, .slice fA M.funcs.length fc, .slice bA M.tabs.length bc, .slice mA M.mems.length mk, .slice gA M.globs.length gc, .slice xA xn xc, .bool st, .int .u32 sn, .slice eA en ec, .bool cs, .int .u32 cn, .slice cA M.codes.length cc, .slice dA dn dc] (.slice none 0 0) (.slice none 0 0) (.slice none 0 0) (.slice none 0 0) ev dv [.int .i64 0] [] (inst0 M) ∧ Ro (fun b => S b ∨ b = pB) w1 W ∧ ∀ q : Key, q.own ≠ some u → q ≠ .tmp 3 → L3 q = L q) ?_ ?_
    · first
        | (obtain ⟨L3, h3⟩ := HST.out w1 _ HS1.out HM1.out true _ _ _ (.inl ⟨rfl, rfl, rfl, rfl⟩); rw [show ((w1.alloc (.cells (Array.replicate en (.bool false)) 4)).alloc (.cells (Array.replicate dn (.bool false)) 4)).heap.size = w1.heap.size + 1 + 1 by simp] at h3; exact ⟨_, _, L3, h3.1.still ((Below.refl _ _).drew), h3.2.1, h3.2.2⟩)
        | (obtain ⟨L3, h3⟩ := HST.out w1 _ HS1.out HM1.out false _ _ _ (.inr ⟨rfl, rfl, rfl, rfl⟩); rw [show ((w1.alloc (.cells (Array.replicate dn (.bool false)) 4)).alloc (.cells (Array.replicate en (.bool false)) 4)).heap.size = w1.heap.size + 1 + 1 by simp] at h3; exact ⟨_, _, L3, h3.1.still ((Below.refl _ _).drew), h3.2.1, h3.2.2⟩)
    · generalize w1.heap.size + 1 + 1 = iB
      clear hHeld
      first
        | (generalize (((w1.alloc (.cells (Array.replicate en (.bool false)) 4)).alloc (.cells (Array.replicate dn (.bool false)) 4)).alloc _).drew = w4)
        | (generalize (((w1.alloc (.cells (Array.replicate dn (.bool false)) 4)).alloc (.cells (Array.replicate en (.bool false)) 4)).alloc _).drew = w4)
      clear KEY mkE mkD p0 p1 p2 p3 p5 p6 p7 p8 p9 p10 p11 p12
      rintro ⟨ev, dv, L3, h3, ro3, hk3⟩
      have H3 := Lib.hid (And.intro h3 (And.intro ro3 hk3))
      have HRM := Lib.hid (room_c h3 ⟨rfl, rfl⟩ HF.out.1.mems HF.out.1.tabs)
      clear h3 ro3 hk3
      go_wp2_with fail
      refine HRM.out.mono ?_
      rintro e w5 ⟨rfl, mv5, tv5, L5, h5, ro5, hk5⟩
      have H5 := Lib.hid (And.intro h5 (And.intro ro5 hk5))
      have HBL := Lib.hid (mblocks_c h5 ess HF.out.1.len HF.out.1.codes HF.out.1.walk)
      clear h5 ro5 hk5
      go_wp2_with fail
      refine HBL.out.mono ?_
      rintro e w6 ⟨rfl, bv6, S6, L6, h6, ro6, hS6, hk6⟩
      have H6 := Lib.hid (And.intro h6 (And.intro ro6 (And.intro hS6 hk6)))
      have i19 : w6.cell? ⟨iB, 19, none⟩ = some (.int .i64 0) := h6.cell 19 _ (h6.tail 6)
      have hro : Ro (fun b => S b ∨ b = pB) w1 w6 := (H3.out.2.1.trans' H5.out.2.1).trans' ro6
      have i4 : w6.cell? ⟨pB, 4, none⟩ = some (.slice gA M.globs.length gc) := (World.cell?_of_block (a := ⟨pB, 4, none⟩) (hro.2 pB (.inr rfl))).trans p4
      obtain ⟨v4, hv4, hgr⟩ := h6.mod.globs
      cases hv4
      have HG := Lib.hid hgr
      have HRO2 := Lib.hid hro
      have H7 := Lib.hid (show Mkr w6 S6 L6 u iB M [.slice tA M.types.length tc, .slice fA M.funcs.length fc, .slice bA M.tabs.length bc, .slice mA M.mems.length mk, .slice gA M.globs.length gc, .slice xA xn xc, .bool st, .int .u32 sn, .slice eA en ec, .bool cs, .int .u32 cn, .slice cA M.codes.length cc, .slice dA dn dc] bv6 mv5 tv5 (.slice none 0 0) ev dv [.int .i64 0] ess { (inst0 M) with mem := memC M, tabs := tabsC M.tabs, glo := (M.globs.take 0).map valueC } from h6)
      clear h6 ro6 hS6 hk6 hgr hro p4
      go_wp2_with fail
      go_loopw [35] (fun i wr => ∃ n : Nat, n ≤ M.globs.length ∧ i = .int .i64 n ∧ ∃ gv L', Mkr wr S6 L' u iB M [.slice tA M.types.length tc, .slice fA M.funcs.length fc, .slice bA M.tabs.length bc, .slice mA M.mems.length mk, .slice gA M.globs.length gc, .slice xA xn xc, .bool st, .int .u32 sn, .slice eA en ec, .bool cs, .int .u32 cn, .slice cA M.codes.length cc, .slice dA dn dc] bv6 mv5 tv5 gv ev dv [.int .i64 0] ess { (inst0 M) with mem := memC M, tabs := tabsC M.tabs, glo := (M.globs.take n).map valueC } ∧ Ro S6 w6 wr ∧ ∀ q : Key, q ≠ .glo u → q ≠ .ins u → L' q = L6 q) (fun i _ => M.globs.length - (intOf i).toNat)
      case atStart => exact ⟨0, Nat.zero_le _, rfl, _, L6, H7.out, Ro.refl _ _, fun _ _ _ => rfl⟩
      case round =>
        obtain ⟨n, hn, rfl, gv, L8, h8, ro8, hk8⟩ := hrel
        by_cases hlt : n < M.globs.length
        · have hx : M.globs[n]? = some M.globs[n] := List.getElem?_eq_getElem hlt
          generalize M.globs[n] = x at hx
          have hg8 := HG.out.mono ro8 (fun _ h => h) (fun _ _ h => h.mono ro8 (fun _ h => h))
          obtain ⟨g, o, cs1, rfl, hSg, _, ⟨ty, mu, iv, rfl, hiv⟩, hcs⟩ := hg8.get n x hx
          obtain ⟨iA, ic, rfl, _, _, _, _⟩ := id hiv
          have k0 := hcs 0 _ rfl
          have k1 := hcs 1 _ rfl
          have k2 := hcs 2 _ rfl
          rw [Nat.add_zero] at k0
          have hi : IntKind.i64.wrap ((n : Int) + 1) = (n : Int) + 1 := IntWalk.i64_in _ (by have := HF.out.2.globs.1; omega)
          have i1 : decide ((n : Int) < (M.globs.length : Int)) = true := decide_eq_true (by omega)
          have bel2 : Below wr.heap.size wr (wr.alloc (.cells #[.int .u8 ty, .bool mu, .slice iA x.length ic] 121)) := (Below.refl _ _).alloc (Nat.le_refl _) _
          have h9 := h8.still bel2
          have hiv2 := hiv.mono (S := S6) (S' := S6) (w' := (wr.alloc (.cells #[.int .u8 ty, .bool mu, .slice iA x.length ic] 121)).drew) ⟨⟨bel2.size, bel2.os, bel2.output⟩, fun b hb => bel2.block b (h8.sep.lt b hb)⟩ (fun _ h => h) (fun _ _ hh => hh.mono ⟨⟨bel2.size, bel2.os, bel2.output⟩, fun b hb => bel2.block b (h8.sep.lt b hb)⟩ (fun _ h => h))
          have HV := Lib.hid (value_c _ S6 _ x hiv2 (HF.out.2.globs.2 x (List.mem_of_getElem? hx)))
          obtain ⟨A1, m1, kk1, rfl, _, _, hxl, _⟩ := Row.rd (h9.sep.holds _ _ h9.glo)
          have hgx := Lib.hid (show ((M.globs.take (n + 1)).map valueC) = ((M.globs.take n).map valueC) ++ [valueC x] by rw [List.take_add_one, hx]; simp)
          have i16 : (wr.alloc (.cells #[.int .u8 ty, .bool mu, .slice iA x.length ic] 121)).cell? ⟨iB, 16, none⟩ = some (.slice A1 m1 kk1) := h9.cell 16 _ (h9.tail 3)
          have tB2 : (wr.alloc (.cells #[.int .u8 ty, .bool mu, .slice iA x.length ic] 121)).cell? ⟨wr.heap.size, 2, none⟩ = some (.slice iA x.length ic) := by simp
          have hrb : rowBlock (.slice A1 m1 kk1) ≠ some wr.heap.size := by
            intro hh
            have := Ck.lt (h8.sep.holds _ _ h8.glo) hh
            omega
          have HX := Lib.hid (And.intro h8 (And.intro ro8 (And.intro hk8 (And.intro hrb bel2))))
          have HLN := Lib.hid (show (M.globs.take n).length ≤ 1000 by have := HF.out.2.globs.1; simp; omega)
          clear h8 ro8 hk8 hrb bel2 hg8 hSg hcs hiv hiv2 hx hxl hn
          rename_i y1 y2 y3 y4 y5 y6 y7
          clear y1 y2 y3 y4 y5 y6 y7
          generalize hwb : wr.alloc (.cells #[.int .u8 ty, .bool mu, .slice iA x.length ic] 121) = w9 at h9 i16 tB2 HV HX
          have KEY := Lib.hid (show ∀ w', Below w9.heap.size w9 w' → w'.cell? ⟨iB, 16, none⟩ = some (.slice A1 m1 kk1) ∧ w'.cell? ⟨wr.heap.size, 2, none⟩ = some (.slice iA x.length ic) from fun w' hb => ⟨(hb.cell (World.block_lt_of_cell? _ _ i16)).trans i16, (hb.cell (World.block_lt_of_cell? _ _ tB2)).trans tB2⟩)
          have H9 := Lib.hid h9
          clear h9
          have HBY := Lib.hid (show ((ints .u64 ((M.globs.take n).map valueC)).length + 1) * 8 ≤ 140737488355328 from by rw [ints_len, List.length_map]; have := HLN.out; omega)
          have HO1 := Lib.hid (show ∀ z ∈ [Value.int .u64 (valueC x)], z.oneCell' = true by simp [Value.oneCell'])
          go_wp2_with fail
          refine wp_region_z (fun w' => w'.cell? ⟨iB, 16, none⟩ = some (.slice A1 m1 kk1) ∧ w'.cell? ⟨wr.heap.size, 2, none⟩ = some (.slice iA x.length ic)) (fun j => j == 11 || j == 12 || j == 13 || j == 14) (by kernel_rfl) ?_ (fun hHeld => ?_)
          · first | exact KEY.out _ (Below.refl _ _).drew | exact KEY.out _ HB3.out | exact KEY.out _ HB4.out | exact ⟨c16, ct⟩
          (refine wpZ_take (i := 0) (oi := ⟨some 39, .move (.tmp 4), 191, _, _, none⟩) (v := ?_) rfl (by kernel_rfl) (fun _ _ _ h => h) (by assumption) (Or.inl ⟨by rfl, ?_⟩) ?_; rotate_left 1; · ((intro w hSw; (try dsimp only at hSw); go_split_ands; go_simp) <;> (try with_reducible rfl)))
          try simp only [Act.put, List.setIfInBounds_toArray, List.set_cons_zero, List.set_cons_succ]
          (refine wpZ_take (i := 1) (oi := ⟨some 40, .move (.tmp 4), 191, _, _, none⟩) (v := ?_) rfl (by kernel_rfl) (fun _ _ _ h => h) (by assumption) (Or.inl ⟨by rfl, ?_⟩) ?_; rotate_left 1; · ((intro w hSw; (try dsimp only at hSw); go_split_ands; go_simp) <;> (try with_reducible rfl)))
          try simp only [Act.put, List.setIfInBounds_toArray, List.set_cons_zero, List.set_cons_succ]
          (refine wpZ_take (i := 2) (oi := ⟨some 41, .nilCheck (.tmp 40), 0, _, _, none⟩) (v := ?_) rfl (by kernel_rfl) (fun _ _ _ h => h) (by assumption) (Or.inl ⟨by rfl, ?_⟩) ?_; rotate_left 1; · ((intro w hSw; (try dsimp only at hSw); go_split_ands; go_simp) <;> (try with_reducible rfl)))
          try simp only [Act.put, List.setIfInBounds_toArray, List.set_cons_zero, List.set_cons_succ]
          (refine wpZ_take (i := 3) (oi := ⟨some 42, .fieldAddr 193 (.tmp 41) 0, 0, _, _, none⟩) (v := ?_) rfl (by kernel_rfl) (fun _ _ _ h => h) (by assumption) (Or.inl ⟨by rfl, ?_⟩) ?_; rotate_left 1; · ((intro w hSw; (try dsimp only at hSw); go_split_ands; go_simp) <;> (try with_reducible rfl)))
          try simp only [Act.put, List.setIfInBounds_toArray, List.set_cons_zero, List.set_cons_succ]
          (refine wpZ_take (i := 4) (oi := ⟨some 43, .fieldAddr 67 (.tmp 42) 4, 0, _, _, none⟩) (v := ?_) rfl (by kernel_rfl) (fun _ _ _ h => h) (by assumption) (Or.inl ⟨by rfl, ?_⟩) ?_; rotate_left 1; · ((intro w hSw; (try dsimp only at hSw); go_split_ands; go_simp) <;> (try with_reducible rfl)))
          try simp only [Act.put, List.setIfInBounds_toArray, List.set_cons_zero, List.set_cons_succ]
          (refine wpZ_take (i := 5) (oi := ⟨some 44, .load 57 (.tmp 43), 57, _, _, none⟩) (v := ?_) rfl (by kernel_rfl) (fun _ _ _ h => h) (by assumption) (Or.inl ⟨by rfl, ?_⟩) ?_; rotate_left 1; · ((intro w hSw; (try dsimp only at hSw); go_split_ands; go_simp) <;> (try with_reducible rfl)))
          try simp only [Act.put, List.setIfInBounds_toArray, List.set_cons_zero, List.set_cons_succ]
          (refine wpZ_take (i := 6) (oi := ⟨some 45, .fieldAddr 121 (.tmp 6) 2, 0, _, _, none⟩) (v := ?_) rfl (by kernel_rfl) (fun _ _ _ h => h) (by assumption) (Or.inl ⟨by rfl, ?_⟩) ?_; rotate_left 1; · ((intro w hSw; (try dsimp only at hSw); go_split_ands; go_simp) <;> (try with_reducible rfl)))
          try simp only [Act.put, List.setIfInBounds_toArray, List.set_cons_zero, List.set_cons_succ]
          (refine wpZ_take (i := 7) (oi := ⟨some 46, .load 24 (.tmp 45), 24, _, _, none⟩) (v := ?_) rfl (by kernel_rfl) (fun _ _ _ h => h) (by assumption) (Or.inl ⟨by rfl, ?_⟩) ?_; rotate_left 1; · ((intro w hSw; (try dsimp only at hSw); go_split_ands; go_simp) <;> (try with_reducible rfl)))
          try simp only [Act.put, List.setIfInBounds_toArray, List.set_cons_zero, List.set_cons_succ]
          refine wpZ_one (i := 8) (oi := ⟨some 47, .call { callee := .value (.func 112), args := #[.tmp 46], argTypes := #[24] }, 26, _, _, none⟩) rfl (by kernel_rfl) (fun K hK => ?_)
          go_simp; refine HV.out.mono ?_; rintro e w3 ⟨rfl, hb3⟩; have HB3 := Lib.hid (below_then (Below.refl w9.heap.size w9).drew hb3); have HB4 := Lib.hid (HB3.out.alloc HB3.out.size (.cells #[.int .u64 (valueC x)] 26)); have H10 := Lib.hid (H9.out.still HB4.out); have RD := Lib.hid (show Rd (w3.alloc (.cells #[.int .u64 (valueC x)] 26)) 1 (some ⟨w3.heap.size, 0, none⟩) 1 [.int .u64 (valueC x)] from rd_cell1 _ _ _); clear hb3 HV
          refine hK.out _ _ (fun _ => by (first | exact KEY.out _ (Below.refl _ _).drew | exact KEY.out _ HB3.out | exact KEY.out _ HB4.out | exact ⟨c16, ct⟩)) (fun hh => ?_)
          have hHeld := hh rfl
          clear hK K
          try simp only [Act.put, List.setIfInBounds_toArray, List.set_cons_zero, List.set_cons_succ]
          refine wpZ_one (i := 9) (oi := ⟨some 48, .buildSlice 57 1 #[(0, .tmp 47)], 57, _, _, none⟩) rfl (by kernel_rfl) (fun K hK => ?_)
          go_simp
          refine hK.out _ _ (fun _ => by (first | exact KEY.out _ (Below.refl _ _).drew | exact KEY.out _ HB3.out | exact KEY.out _ HB4.out | exact ⟨c16, ct⟩)) (fun hh => ?_)
          have hHeld := hh rfl
          clear hK K
          try simp only [Act.put, List.setIfInBounds_toArray, List.set_cons_zero, List.set_cons_succ]
          refine wpZ_one (i := 10) (oi := ⟨some 49, .call { callee := .builtin .append, args := #[.tmp 44, .tmp 48], argTypes := #[57, 57] }, 57, _, _, none⟩) rfl (by kernel_rfl) (fun K hK => ?_)
          refine step_append_row (by rfl) _ _ _ (by rfl) 26 1 _ 8 Tryz.underlying57 infoU64 rfl (by omega) (by omega) (.slice A1 m1 kk1) (ints .u64 ((M.globs.take n).map valueC)) (by rfl) (some ⟨w3.heap.size, 0, none⟩) 1 1 [.int .u64 (valueC x)] (by rfl) (H10.out.sep.holds _ _ H10.out.glo) RD.out HO1.out HBY.out ?_; intro B1 m2 c3 w5 hr1 hg1 ha1; obtain ⟨L5', h5, ro5, hk5, c16, z16⟩ := H10.out.glob (x := valueC x) (by have := hr1.out; rwa [show ints .u64 ((M.globs.take n).map valueC) ++ [.int .u64 (valueC x)] = ints .u64 ((M.globs.take n).map valueC ++ [valueC x]) by simp [ints]] at this) hg1.out ha1.out; have ct : w5.cell? ⟨wr.heap.size, 2, none⟩ = some (.slice iA x.length ic) := hg1.out.cell (KEY.out _ HB4.out).2 (by simpa using fun e => HX.out.2.2.2.1 e.symm); have H11 := Lib.hid (And.intro h5 (And.intro ro5 hk5)); clear h5 ro5 hk5 hr1 hg1 ha1
          refine hK.out _ _ (fun _ => by (first | exact KEY.out _ (Below.refl _ _).drew | exact KEY.out _ HB3.out | exact KEY.out _ HB4.out | exact ⟨c16, ct⟩)) (fun hh => ?_)
          have hHeld := hh rfl
          clear hK K
          try simp only [Act.put, List.setIfInBounds_toArray, List.set_cons_zero, List.set_cons_succ]
          refine wpZ_one (i := 11) (oi := ⟨some 50, .nilCheck (.tmp 39), 0, _, _, none⟩) rfl (by kernel_rfl) (fun K hK => ?_)
          go_simp
          refine hK.out _ _ (fun h => by simp at h) (fun _ => ?_)
          clear hK K
          try simp only [Act.put, List.setIfInBounds_toArray, List.set_cons_zero, List.set_cons_succ]
          refine wpZ_one (i := 12) (oi := ⟨some 51, .fieldAddr 193 (.tmp 50) 0, 0, _, _, none⟩) rfl (by kernel_rfl) (fun K hK => ?_)
          go_simp
          refine hK.out _ _ (fun h => by simp at h) (fun _ => ?_)
          clear hK K
          try simp only [Act.put, List.setIfInBounds_toArray, List.set_cons_zero, List.set_cons_succ]
          refine wpZ_one (i := 13) (oi := ⟨some 52, .fieldAddr 67 (.tmp 51) 4, 0, _, _, none⟩) rfl (by kernel_rfl) (fun K hK => ?_)
          go_simp
          refine hK.out _ _ (fun h => by simp at h) (fun _ => ?_)
          clear hK K
          try simp only [Act.put, List.setIfInBounds_toArray, List.set_cons_zero, List.set_cons_succ]
          refine wpZ_one (i := 14) (oi := ⟨none, .store 57 (.tmp 52) (.tmp 49), 0, _, _, none⟩) rfl (by kernel_rfl) (fun K hK => ?_)
          go_simp
          refine hK.out _ _ (fun h => by simp at h) (fun _ => ?_)
          clear hK K
          try simp only [Act.put, List.setIfInBounds_toArray, List.set_cons_zero, List.set_cons_succ]
          refine wpZ_done (by kernel_rfl) ?_ _
          go_wp2
          go_roundw
          case rel =>
            refine ⟨n + 1, hlt, by go_num, .slice B1 m2 c3, L5', by rw [hgx.out]; exact H11.out.1, ?_, fun q a b => (H11.out.2.2 q a b).trans (HX.out.2.2.1 q a b)⟩
            have b9 := HX.out.2.2.2.2
            have r1 : Ro S6 wr w9 := ⟨⟨b9.size, b9.os, b9.output⟩, fun b hb => b9.block b (HX.out.1.sep.lt b hb)⟩
            have b4 := HB4.out
            have r2 : Ro S6 w9 (w3.alloc (.cells #[.int .u64 (valueC x)] 26)) := ⟨⟨b4.size, b4.os, b4.output⟩, fun b hb => b4.block b (H9.out.sep.lt b hb)⟩
            exact ((HX.out.2.1.trans' r1).trans' r2).trans' H11.out.2.1
          case measure => (simp [intOf]; try omega)
        · obtain rfl : n = M.globs.length := by omega
          have hd0 : decide ((M.globs.length : Int) < (M.globs.length : Int)) = false := decide_eq_false (by omega)
          have H8 := Lib.hid (And.intro h8 (And.intro ro8 hk8))
          clear h8 ro8 hk8 hlt hn
          go_wp2
          go_ret2
          obtain ⟨S9, L9, hsm, hS9, hk9⟩ := H8.out.1.done
          refine ⟨iB, S9, L9, rfl, ?_, (HRO.out.trans HRO2.out (fun b hb => .inl hb)).trans H8.out.2.1 (fun b hb => H6.out.2.2.1 b (.inl hb)), fun b hb => hS9 b (H6.out.2.2.1 b (.inl hb)), fun q h1 h2 => ?_⟩
          · rw [List.take_length] at hsm
            exact hsm
          · have nq : ∀ k : Key, k.own = some u → q ≠ k := fun k hk e => h1 (e ▸ hk)
            rw [hk9 q h2 (nq _ rfl), H8.out.2.2 q (nq _ rfl) (nq _ rfl), H6.out.2.2.2 q h2 (nq _ rfl), H5.out.2.2 q (fun k => nq _ rfl) (nq _ rfl) (nq _ rfl) (nq _ rfl), H3.out.2.2 q h1 h2]
end Go.Proofs.YtmnebeikafigjaaGreatDoor
/- A round of work. -/
set_option linter.unusedVariables false
namespace Go.Proofs.YtmnebeikafigjaaGreatDoor
open Go.St
def headS (M : Mo) (below : List Fr) (bst : List Int) (I : In) (v : Int) (g : Int) : Cf × In := ({ frs := below ++ [⟨6, 2, 1, bst.length, [v], [⟨17, 1, bst.length⟩, ⟨15, 0, bst.length⟩, ⟨1, 0, bst.length⟩]⟩], st := bst, ov := false, er := 0, va := [] }, { I with glo := [g] })
theorem low_small {v : Int} (h : 0 ≤ v ∧ v < 4294967296) : lowI v = v := by unfold lowI; omega
theorem fn107_1 {v : Int} (h : 0 < v ∧ v < 4294967296) : (fnOf 107).two v 1 = (v - 1, 0) := by
  have e1 : lowI v = v := low_small (by omega)
  have e2 : lowI 1 = 1 := by decide
  have e3 : IntKind.u64.wrap (v - 1) = v - 1 := by simp [IntKind.wrap, IntKind.bits, IntKind.signed]; omega
  show (lowI (IntKind.u64.wrap (lowI v - lowI 1)), (0 : Int)) = _
  rw [e1, e2, e3, low_small (by omega)]
theorem fn106_1 {v : Int} (h : 0 ≤ v ∧ v < 4294967295) : (fnOf 106).two v 1 = (v + 1, 0) := by
  have e1 : lowI v = v := low_small (by omega)
  have e2 : lowI 1 = 1 := by decide
  have e3 : IntKind.u64.wrap (v + 1) = v + 1 := by simp [IntKind.wrap, IntKind.bits, IntKind.signed]; omega
  show (lowI (IntKind.u64.wrap (lowI v + lowI 1)), (0 : Int)) = _
  rw [e1, e2, e3, low_small (by omega)]
theorem fn69_1 {v : Int} (h : 0 < v ∧ v < 4294967296) : (fnOf 69).one v = 0 := by
  have e1 : lowI v = v := low_small (by omega)
  show (if (lowI v == 0) = true then (1 : Int) else 0) = 0
  rw [e1, if_neg (by simp; omega)]
theorem n69 : (fnOf 69).n = 1 := rfl
theorem n106 : (fnOf 106).n = 2 := rfl
theorem n107 : (fnOf 107).n = 2 := rfl
set_option maxRecDepth 100000 in
set_option maxHeartbeats 4000000 in
theorem round_c (v g : Int) (hv : 0 < v ∧ v < 4294967296) (hg : 0 ≤ g ∧ g < 4294967295) : (runsC (fixedM [] []) 12 (headS (fixedM [] []) [] [] (fixedI [] g) v g)) = some (headS (fixedM [] []) [] [] (fixedI [] (g + 1)) (v - 1) (g + 1)) := by
  have e := fn69_1 hv
  have e2 := fn107_1 hv
  have e3 := fn106_1 hg
  have l0 : lowI 0 = 0 := by decide
  have hm : min (0 : Int) 2147483647 = 0 := by decide
  simp [runsC, nextC, headS, fixedM, fixedI, fixedBodies, ins, fixedOps, oneC, doC, controlC, placesC, getL, pushI, setTop, numbersC, popsC, branchC, n69, n106, n107, e, e2, e3, l0, hm, landsC, opM, insAt]
/-- All rounds. -/
theorem rounds_c : ∀ (k : Nat) (g : Int), k < 4294967296 → 0 ≤ g → g + k < 4294967296 → runsC (fixedM [] []) (12 * k) (headS (fixedM [] []) [] [] (fixedI [] g) k g) = some (headS (fixedM [] []) [] [] (fixedI [] (g + k)) 0 (g + k))
  | 0, g, _, _, _ => by simp [runsC]
  | k + 1, g, h1, h2, h3 => by
    have a := round_c ((k + 1 : Nat) : Int) g (by omega) (by omega)
    have b := rounds_c k (g + 1) (by omega) (by omega) (by omega)
    have e : (((k + 1 : Nat) : Int) - 1) = (k : Int) := by omega
    rw [e] at a
    have c := runs_add a b
    rw [show 12 + 12 * k = 12 * (k + 1) by omega, show g + 1 + (k : Int) = g + ((k + 1 : Nat) : Int) by omega] at c
    exact c
end Go.Proofs.YtmnebeikafigjaaGreatDoor
/- The start of LinkStarts: so many rounds. -/
set_option linter.unusedVariables false
namespace Go.Proofs.YtmnebeikafigjaaGreatDoor
open Go.St
def startB (n : Int) : List Ins := [ins 65 0 n, ins 16 6, ins 26, ins 11]
def M8 (n : Int) : Mo := fixedM [0] [startB n]
def I8 (n g : Int) : In := fixedI [startB n] g
def head8 (n v g : Int) : Cf × In := ({ frs := [⟨8, 2, 0, 0, [], [⟨3, 0, 0⟩]⟩, ⟨6, 2, 1, 0, [v], [⟨17, 1, 0⟩, ⟨15, 0, 0⟩, ⟨1, 0, 0⟩]⟩], st := [], ov := false, er := 0, va := [] }, I8 n g)
set_option maxRecDepth 100000 in
set_option maxHeartbeats 4000000 in
theorem start8 (n : Int) (hn : 0 ≤ n ∧ n < 4294967296) : runsC (M8 n) 4 (openC (M8 n) 9 cf0 8 [], I8 n 0) = some (head8 n n 0) := by
  have e := low_small hn
  simp [runsC, nextC, head8, M8, I8, startB, fixedM, fixedI, fixedBodies, ins, fixedOps, oneC, doC, controlC, placesC, pushI, setTop, popsC, openC, callC, functionM, argsOf, cf0, enterC, enter2, signM, blkAt, blocksOf, seek, e]
set_option maxRecDepth 100000 in
set_option maxHeartbeats 4000000 in
theorem round8 (n v g : Int) (hv : 0 < v ∧ v < 4294967296) (hg : 0 ≤ g ∧ g < 4294967295) : runsC (M8 n) 12 (head8 n v g) = some (head8 n (v - 1) (g + 1)) := by
  have e := fn69_1 hv
  have e2 := fn107_1 hv
  have e3 := fn106_1 hg
  have l0 : lowI 0 = 0 := by decide
  have hm : min (0 : Int) 2147483647 = 0 := by decide
  simp [runsC, nextC, head8, M8, I8, startB, fixedM, fixedI, fixedBodies, ins, fixedOps, oneC, doC, controlC, placesC, getL, pushI, setTop, numbersC, popsC, branchC, n69, n106, n107, e, e2, e3, l0, hm, landsC, opM, insAt]
theorem rounds8 (n : Int) : ∀ (k : Nat) (g : Int), k < 4294967296 → 0 ≤ g → g + k < 4294967296 → runsC (M8 n) (12 * k) (head8 n k g) = some (head8 n 0 (g + k))
  | 0, g, _, _, _ => by simp [runsC]
  | k + 1, g, h1, h2, h3 => by
    have a := round8 n ((k + 1 : Nat) : Int) g (by omega) (by omega)
    have b := rounds8 n k (g + 1) (by omega) (by omega) (by omega)
    have e : (((k + 1 : Nat) : Int) - 1) = (k : Int) := by omega
    rw [e] at a
    have c := runs_add a b
    rw [show 12 + 12 * k = 12 * (k + 1) by omega, show g + 1 + (k : Int) = g + ((k + 1 : Nat) : Int) by omega] at c
    exact c
theorem fn69_0 : (fnOf 69).one 0 = 1 := by decide
set_option maxRecDepth 100000 in
set_option maxHeartbeats 4000000 in
theorem end8 (n g : Int) : runsC (M8 n) 7 (head8 n 0 g) = some (⟨[], [], true, 0, []⟩, I8 n g) := by
  have l1 : lowI 1 = 1 := by decide
  have hm : min (1 : Int) 2147483647 = 1 := by decide
  simp [runsC, nextC, head8, M8, I8, startB, fixedM, fixedI, fixedBodies, ins, fixedOps, oneC, doC, controlC, placesC, getL, pushI, setTop, numbersC, popsC, branchC, n69, fn69_0, l1, hm, landsC, opM, insAt, closeC, leaveC]
/-- The whole start. -/
theorem run8 (n : Nat) (hn : n < 4294967296) : runsC (M8 n) (12 * n + 11) (openC (M8 n) 9 cf0 8 [], I8 n 0) = some (⟨[], [], true, 0, []⟩, I8 n n) := by
  have a := start8 n (by omega)
  have b := rounds8 n n 0 hn (by omega) (by omega)
  have c := end8 n (0 + n)
  have d := runs_add (runs_add a b) c
  rw [show 4 + 12 * n + 7 = 12 * n + 11 by omega, Int.zero_add] at d
  exact d
set_option maxRecDepth 100000 in
theorem run3 (n : Int) : runsC (M8 n) 5 (openC (M8 n) 9 cf0 3 [], I8 n 0) = some (endsC 7, I8 n 1000) := by kernel_rfl
def spin8 (n : Int) : Cf × In := ({ frs := [⟨2, 3, 0, 0, [], [⟨5, 0, 0⟩, ⟨2, 0, 0⟩]⟩], st := [], ov := false, er := 0, va := [] }, I8 n 99)
set_option maxRecDepth 100000 in
theorem start2 (n : Int) : runsC (M8 n) 3 (openC (M8 n) 9 cf0 2 [], I8 n 0) = some (spin8 n) := by kernel_rfl
set_option maxRecDepth 100000 in
theorem spin2 (n : Int) : nextC (M8 n) (spin8 n) = some (spin8 n) := by kernel_rfl
theorem spins2 (n : Int) : ∀ k : Nat, runsC (M8 n) k (spin8 n) = some (spin8 n)
  | 0 => rfl
  | k + 1 => by
    simp only [runsC, spin2]
    exact spins2 n k
set_option maxRecDepth 100000 in
theorem run7 (n : Int) : runsC (M8 n) 96 (openC (M8 n) 9 cf0 7 [], I8 n 0) = some (endsC 8, I8 n 5) := by kernel_rfl
end Go.Proofs.YtmnebeikafigjaaGreatDoor
/- link's start. -/
set_option linter.unusedVariables false
namespace Go.Proofs.YtmnebeikafigjaaGreatDoor
open Go.RowKit Go.Sep Go.St
variable {w : World} {S : Nat → Prop} {L : Key → Option Ck} {u : Nat} {M : Mo}
theorem field3 (w : World) (fA sA vA : Option Addr) (fn fc sn sc vn vc : Nat) (b : Bool) (e : Int) : (Instr.field 59 (.agg #[.slice fA fn fc, .slice sA sn sc, .bool b, .int .i64 e, .slice vA vn vc]) 3).run Tryz.prog w = .ok (.int .i64 e) w := by
  simp [Instr.field, asAgg, go_sem]
def StR (w : World) (S : Nat → Prop) (L : Key → Option Ck) (u iB mk : Nat) (M : Mo) (I : In) (er : Int) (w' : World) : Prop :=
  ∃ S' L', Si w' S' L' u iB M I ∧ L' (.tmp 2) = some (.cl mk 0 [.pointer (some ⟨iB, 0, none⟩), .int .i64 er]) ∧ (∀ q : Key, q.own ≠ some u → q ≠ .tmp 2 → L' q = L q) ∧ Ro S w w' ∧ ∀ b, S b → S' b
set_option maxRecDepth 100000 in
set_option maxHeartbeats 1000000 in
theorem starts_c {iB mk : Nat} {I : In} (h : Si w S L u iB M I) (h0 : L (.tmp 0) = none) (h1 : L (.tmp 1) = none) (h2 : L (.tmp 2) = some (.cl mk 0 [.pointer (some ⟨iB, 0, none⟩), .int .i64 0])) (f : Nat) (hf : f < 4294967296) (hc6 : w.cell? ⟨iB, 6, none⟩ = some (.bool true)) (hc7 : w.cell? ⟨iB, 7, none⟩ = some (.int .u32 (f : Int)))
    (st : Nat → Cf × In) (hst0 : st 0 = (openC M I.blocks.length cf0 f [], I)) (n : Nat) (hs : ∀ k, k < n → StepOk M (st k) (st (k + 1))) (hn : (n : Int) ≤ 1000 ∨ n = 0) (hend : (st n).1.ov = true ∨ (1000 : Int) ≤ n) :
    Calls Tryz.prog 64 #[.pointer (some ⟨mk, 0, none⟩)] w fun e w' => e = .returned (.tuple #[]) ∧ StR w S L u iB mk M (st n).2 (endOf (st n).1).er w' := by
  have hd : Si w.drew S L u iB M I := ⟨h.sep.drew, h.mach, h.cfg, h.ins.mono ⟨⟨Nat.le_refl _, rfl, rfl⟩, fun _ _ => rfl⟩ (fun _ h => h) rfl rfl rfl (fun _ => rfl) rfl rfl rfl, h.wf⟩
  have HA := Lib.hid (all_c hd h0 h1 f hf none 0 0 [] ⟨none, 0, rfl, by simp, by simp [maxLen], fun h => by simp at h, fun _ => rfl⟩ (fun x hx => by simp at hx) st hst0 n hs 1000 hn (by omega) hend)
  have m0 := h.sep.cell0 h2 0 _ rfl
  have m1 := h.sep.cell0 h2 1 _ rfl
  have HH := Lib.hid h2
  have d7 : w.drew.cell? ⟨iB, 7, none⟩ = some (.int .u32 (f : Int)) := hc7
  clear h h0 h1 h2 hf hst0 hs hn hend hd
  go_enter Tryz.func64, Tryz.ntmps64
  go_wp2_with fail
  refine wp_region_z (fun w' => w'.cell? ⟨mk, 0, none⟩ = some (.pointer (some ⟨iB, 0, none⟩))) (fun j => j == 17) (by kernel_rfl) ?_ (fun hHeld => ?_)
  · first | exact m0 | exact hHeld | exact mm0
  (refine wpZ_take (i := 0) (oi := ⟨some 17, .move (.tmp 0), 134, _, _, none⟩) (v := ?_) rfl (by kernel_rfl) (fun _ _ _ h => h) (by assumption) (Or.inl ⟨by rfl, ?_⟩) ?_; rotate_left 1; · ((intro w hSw; (try dsimp only at hSw); go_split_ands; go_simp) <;> (try with_reducible rfl)))
  try simp only [Act.put, List.setIfInBounds_toArray, List.set_cons_zero, List.set_cons_succ]
  (refine wpZ_take (i := 1) (oi := ⟨some 18, .move (.tmp 0), 134, _, _, none⟩) (v := ?_) rfl (by kernel_rfl) (fun _ _ _ h => h) (by assumption) (Or.inl ⟨by rfl, ?_⟩) ?_; rotate_left 1; · ((intro w hSw; (try dsimp only at hSw); go_split_ands; go_simp) <;> (try with_reducible rfl)))
  try simp only [Act.put, List.setIfInBounds_toArray, List.set_cons_zero, List.set_cons_succ]
  (refine wpZ_take (i := 2) (oi := ⟨some 19, .nilCheck (.tmp 18), 0, _, _, none⟩) (v := ?_) rfl (by kernel_rfl) (fun _ _ _ h => h) (by assumption) (Or.inl ⟨by rfl, ?_⟩) ?_; rotate_left 1; · ((intro w hSw; (try dsimp only at hSw); go_split_ands; go_simp) <;> (try with_reducible rfl)))
  try simp only [Act.put, List.setIfInBounds_toArray, List.set_cons_zero, List.set_cons_succ]
  (refine wpZ_take (i := 3) (oi := ⟨some 20, .fieldAddr 136 (.tmp 19) 0, 0, _, _, none⟩) (v := ?_) rfl (by kernel_rfl) (fun _ _ _ h => h) (by assumption) (Or.inl ⟨by rfl, ?_⟩) ?_; rotate_left 1; · ((intro w hSw; (try dsimp only at hSw); go_split_ands; go_simp) <;> (try with_reducible rfl)))
  try simp only [Act.put, List.setIfInBounds_toArray, List.set_cons_zero, List.set_cons_succ]
  (refine wpZ_take (i := 4) (oi := ⟨some 21, .load 53 (.tmp 20), 53, _, _, none⟩) (v := ?_) rfl (by kernel_rfl) (fun _ _ _ h => h) (by assumption) (Or.inl ⟨by rfl, ?_⟩) ?_; rotate_left 1; · ((intro w hSw; (try dsimp only at hSw); go_split_ands; go_simp) <;> (try with_reducible rfl)))
  try simp only [Act.put, List.setIfInBounds_toArray, List.set_cons_zero, List.set_cons_succ]
  (refine wpZ_take (i := 5) (oi := ⟨some 22, .move (.tmp 0), 134, _, _, none⟩) (v := ?_) rfl (by kernel_rfl) (fun _ _ _ h => h) (by assumption) (Or.inl ⟨by rfl, ?_⟩) ?_; rotate_left 1; · ((intro w hSw; (try dsimp only at hSw); go_split_ands; go_simp) <;> (try with_reducible rfl)))
  try simp only [Act.put, List.setIfInBounds_toArray, List.set_cons_zero, List.set_cons_succ]
  (refine wpZ_take (i := 6) (oi := ⟨some 23, .nilCheck (.tmp 22), 0, _, _, none⟩) (v := ?_) rfl (by kernel_rfl) (fun _ _ _ h => h) (by assumption) (Or.inl ⟨by rfl, ?_⟩) ?_; rotate_left 1; · ((intro w hSw; (try dsimp only at hSw); go_split_ands; go_simp) <;> (try with_reducible rfl)))
  try simp only [Act.put, List.setIfInBounds_toArray, List.set_cons_zero, List.set_cons_succ]
  (refine wpZ_take (i := 7) (oi := ⟨some 24, .fieldAddr 136 (.tmp 23) 0, 0, _, _, none⟩) (v := ?_) rfl (by kernel_rfl) (fun _ _ _ h => h) (by assumption) (Or.inl ⟨by rfl, ?_⟩) ?_; rotate_left 1; · ((intro w hSw; (try dsimp only at hSw); go_split_ands; go_simp) <;> (try with_reducible rfl)))
  try simp only [Act.put, List.setIfInBounds_toArray, List.set_cons_zero, List.set_cons_succ]
  (refine wpZ_take (i := 8) (oi := ⟨some 25, .load 53 (.tmp 24), 53, _, _, none⟩) (v := ?_) rfl (by kernel_rfl) (fun _ _ _ h => h) (by assumption) (Or.inl ⟨by rfl, ?_⟩) ?_; rotate_left 1; · ((intro w hSw; (try dsimp only at hSw); go_split_ands; go_simp) <;> (try with_reducible rfl)))
  try simp only [Act.put, List.setIfInBounds_toArray, List.set_cons_zero, List.set_cons_succ]
  (refine wpZ_take (i := 9) (oi := ⟨some 26, .nilCheck (.tmp 25), 0, _, _, none⟩) (v := ?_) rfl (by kernel_rfl) (fun _ _ _ h => h) (by assumption) (Or.inl ⟨by rfl, ?_⟩) ?_; rotate_left 1; · ((intro w hSw; (try dsimp only at hSw); go_split_ands; go_simp) <;> (try with_reducible rfl)))
  try simp only [Act.put, List.setIfInBounds_toArray, List.set_cons_zero, List.set_cons_succ]
  (refine wpZ_take (i := 10) (oi := ⟨some 27, .fieldAddr 67 (.tmp 26) 0, 0, _, _, none⟩) (v := ?_) rfl (by kernel_rfl) (fun _ _ _ h => h) (by assumption) (Or.inl ⟨by rfl, ?_⟩) ?_; rotate_left 1; · ((intro w hSw; (try dsimp only at hSw); go_split_ands; go_simp) <;> (try with_reducible rfl)))
  try simp only [Act.put, List.setIfInBounds_toArray, List.set_cons_zero, List.set_cons_succ]
  (refine wpZ_take (i := 11) (oi := ⟨some 28, .fieldAddr 52 (.tmp 27) 7, 0, _, _, none⟩) (v := ?_) rfl (by kernel_rfl) (fun _ _ _ h => h) (by assumption) (Or.inl ⟨by rfl, ?_⟩) ?_; rotate_left 1; · ((intro w hSw; (try dsimp only at hSw); go_split_ands; go_simp) <;> (try with_reducible rfl)))
  try simp only [Act.put, List.setIfInBounds_toArray, List.set_cons_zero, List.set_cons_succ]
  refine wpZ_one (i := 12) (oi := ⟨some 29, .load 25 (.tmp 28), 25, _, _, none⟩) rfl (by kernel_rfl) (fun K hK => ?_)
  go_simp
  refine hK.out _ _ (fun _ => by (first | exact m0 | exact hHeld | exact mm0)) (fun hh => ?_)
  have hHeld := hh rfl
  clear hK K
  try simp only [Act.put, List.setIfInBounds_toArray, List.set_cons_zero, List.set_cons_succ]
  refine wpZ_one (i := 13) (oi := ⟨some 30, .call { callee := .value (.func 65), args := #[.tmp 21, .tmp 29, .const (.int .i64 1000), .const (.slice none 0 0)], argTypes := #[53, 25, 3, 57] }, 59, _, _, none⟩) rfl (by kernel_rfl) (fun K hK => ?_)
  go_simp; refine HA.out.mono ?_; rintro e w3 ⟨fv, sv, vv, S3, L3, rfl, hv, k3, ro3, hS3⟩; obtain ⟨fA, fn, fc, sA, sn, sc, vA, vn, vc, rfl, rfl, rfl⟩ := hv.forms; have FQ := fun w => field3 w fA sA vA fn fc sn sc vn vc (endOf (st n).1).ov (endOf (st n).1).er; have ht3 := (k3 (.tmp 2) (by simp [Key.own])).trans HH.out; have mm0 := hv.sep.cell0 ht3 0 _ rfl; have mm1 := hv.sep.cell0 ht3 1 _ rfl; have mz1 := hv.sep.frozen ht3 1; have HV := Lib.hid (And.intro hv (And.intro k3 (And.intro ro3 (And.intro hS3 ht3)))); clear hv k3 ro3 hS3 ht3 m0 m1 d7 hc6 hc7; go_wp2_with fail
  refine hK.out _ _ (fun _ => by (first | exact m0 | exact hHeld | exact mm0)) (fun hh => ?_)
  have hHeld := hh rfl
  clear hK K
  try simp only [Act.put, List.setIfInBounds_toArray, List.set_cons_zero, List.set_cons_succ]
  (refine wpZ_take (i := 14) (oi := ⟨some 31, .field 59 (.tmp 30) 3, 32, _, _, none⟩) (v := ?_) rfl (by kernel_rfl) (fun _ _ _ h => h) (by assumption) (Or.inl ⟨by rfl, ?_⟩) ?_; rotate_left 1; · ((intro w hSw; (try dsimp only at hSw); go_split_ands; go_simp) <;> (try with_reducible rfl)))
  try simp only [Act.put, List.setIfInBounds_toArray, List.set_cons_zero, List.set_cons_succ]
  (refine wpZ_take (i := 15) (oi := ⟨some 32, .nilCheck (.tmp 17), 0, _, _, none⟩) (v := ?_) rfl (by kernel_rfl) (fun _ _ _ h => h) (by assumption) (Or.inl ⟨by rfl, ?_⟩) ?_; rotate_left 1; · ((intro w hSw; (try dsimp only at hSw); go_split_ands; go_simp) <;> (try with_reducible rfl)))
  try simp only [Act.put, List.setIfInBounds_toArray, List.set_cons_zero, List.set_cons_succ]
  (refine wpZ_take (i := 16) (oi := ⟨some 33, .fieldAddr 136 (.tmp 32) 1, 0, _, _, none⟩) (v := ?_) rfl (by kernel_rfl) (fun _ _ _ h => h) (by assumption) (Or.inl ⟨by rfl, ?_⟩) ?_; rotate_left 1; · ((intro w hSw; (try dsimp only at hSw); go_split_ands; go_simp) <;> (try with_reducible rfl)))
  try simp only [Act.put, List.setIfInBounds_toArray, List.set_cons_zero, List.set_cons_succ]
  refine wpZ_one (i := 17) (oi := ⟨none, .store 32 (.tmp 33) (.tmp 31), 0, _, _, none⟩) rfl (by kernel_rfl) (fun K hK => ?_)
  go_simp
  refine hK.out _ _ (fun h => by simp at h) (fun _ => ?_)
  clear hK K
  try simp only [Act.put, List.setIfInBounds_toArray, List.set_cons_zero, List.set_cons_succ]
  refine wpZ_done (by kernel_rfl) ?_ _
  have hfin : StR w S L u iB mk M (st n).2 (endOf (st n).1).er (w3.setCell ⟨mk, 1, none⟩ (.int .i64 (endOf (st n).1).er)) := by
    obtain ⟨hv, k3, ro3, hS3, ht3⟩ := HV.out
    have s1 := hv.sep.set0 ht3 1 (by simp) (.int .i64 (endOf (st n).1).er)
    have r1 := hv.sep.ro_setCell ht3 1 (.int .i64 (endOf (st n).1).er)
    have h5 := hv.move s1 r1 (fun q hq => upd_other _ _ (hq 2))
    refine ⟨S3, _, h5.si, upd_same _ _ _, fun q hq e => by rw [upd_other _ _ e]; exact k3 q hq, Ro.trans (⟨⟨Nat.le_refl _, rfl, rfl⟩, fun _ _ => rfl⟩ : Ro S w w.drew) (ro3.trans r1 hS3) (fun _ h => h), hS3⟩
  have FIN := Lib.hid hfin
  clear hfin HV
  go_wp2
  go_end0
  exact ⟨rfl, FIN.out⟩
end Go.Proofs.YtmnebeikafigjaaGreatDoor
/- link's Make. -/
set_option linter.unusedVariables false
set_option linter.unusedSimpArgs false
namespace Go.Proofs.YtmnebeikafigjaaGreatDoor
open Go.RowKit Go.Sep Go.St
variable {w : World} {S : Nat → Prop} {L : Key → Option Ck} {u : Nat} {M : Mo} {mc : List Value}
/-- link's maker: an instance, and its error. -/
structure Lk (w : World) (S : Nat → Prop) (L : Key → Option Ck) (u iB mB : Nat) (M : Mo) (mc : List Value) (I : In) (er : Int) : Prop where
  sm : Sm w S L u iB M mc I
  mkr : L (.tmp 2) = some (.cl mB 0 [.pointer (some ⟨iB, 0, none⟩), .int .i64 er])
theorem Sm.move {w1 : World} {S1 : Nat → Prop} {L1 : Key → Option Ck} {iB : Nat} {I : In} (h : Sm w S L u iB M mc I) (s1 : Sep w1 S1 L1) (ro : Ro S w w1) (hS : ∀ b, S b → S1 b) (hk : ∀ q, (∀ k, q ≠ .tmp k) → L1 q = L q) : Sm w1 S1 L1 u iB M mc I := by
  have o := hk
  obtain ⟨r, h1, h2⟩ := h.ins
  exact ⟨⟨s1, (o _ (by simp)).trans h.si.mach, (o _ (by simp)).trans h.si.cfg, h.si.ins.mono ro hS (o _ (by simp)) (o _ (by simp)) (o _ (by simp)) (fun k => o _ (by simp)) (o _ (by simp)) (o _ (by simp)) (o _ (by simp)), h.si.wf⟩, r, (o _ (by simp)).trans h1, h2⟩
theorem Sm.still {w1 : World} {iB : Nat} {I : In} (h : Sm w S L u iB M mc I) (q : Below w.heap.size w w1) : Sm w1 S L u iB M mc I :=
  h.move (h.si.sep.still q.size q.block) ⟨⟨q.size, q.os, q.output⟩, fun b hb => q.block b (h.si.sep.lt b hb)⟩ (fun _ h => h) (fun _ _ => rfl)
theorem Lk.still {w1 : World} {iB mB : Nat} {I : In} {er : Int} (h : Lk w S L u iB mB M mc I er) (q : Below w.heap.size w w1) : Lk w1 S L u iB mB M mc I er := ⟨h.sm.still q, h.mkr⟩
theorem Sm.tmp {iB : Nat} {I : In} (h : Sm w S L u iB M mc I) (k : Nat) (hk : L (.tmp k) = none) (arr : Array Value) (t : Nat) : Sm (w.alloc (.cells arr t)) S (upd L (.tmp k) (.cl w.heap.size 0 arr.toList)) u iB M mc I :=
  h.move (h.si.sep.new (.tmp k) arr t hk) (((Still.refl w).alloc _).ro h.si.sep.lt) (fun _ h => h) (fun q hq => upd_other _ _ (hq k))
def LkTo (w : World) (S : Nat → Prop) (L : Key → Option Ck) (u iB mB : Nat) (M : Mo) (mc : List Value) (I : In) (er : Int) (w' : World) : Prop :=
  ∃ S' L', Lk w' S' L' u iB mB M mc I er ∧ Ro S w w' ∧ (∀ b, S b → S' b) ∧ ∀ q : Key, q.own ≠ some u → q ≠ .tmp 2 → L' q = L q
/-- What elem and data do of each segment, one behind the other. -/
def ElemOk (u : Nat) (M : Mo) (mc : List Value) (st : Nat → In × Int) : Prop := ∀ (k : Nat) (x : El), M.elems[k]? = some x → ∀ (w : World) (S : Nat → Prop) (L : Key → Option Ck) (iB mB : Nat) (t : Int) (oA iA : Option Addr) (oc ic : Nat), Lk w S L u iB mB M mc (st k).1 (st k).2 → RdL w S 6 (InsR w S) (.slice oA x.off.length oc) x.off → RdL w S 1 (fun (l : List Ins) cs => ∃ v, cs = [v] ∧ RdL w S 6 (InsR w S) v l) (.slice iA x.init.length ic) x.init →
  L (.tmp 0) = none → L (.tmp 1) = none → Calls Tryz.prog 62 #[.pointer (some ⟨mB, 0, none⟩), .int .i64 (k : Int), .agg #[.int .u8 x.mode, .int .u8 t, .int .u32 x.table, .slice oA x.off.length oc, .slice iA x.init.length ic]] w fun e w' => e = .returned (.tuple #[]) ∧ LkTo w S L u iB mB M mc (st (k + 1)).1 (st (k + 1)).2 w'
def DataOk (u : Nat) (M : Mo) (mc : List Value) (st : Nat → In × Int) : Prop := ∀ (k : Nat) (x : Da), M.datas[k]? = some x → ∀ (w : World) (S : Nat → Prop) (L : Key → Option Ck) (iB mB : Nat) (oA bA : Option Addr) (oc bc : Nat), Lk w S L u iB mB M mc (st k).1 (st k).2 → RdL w S 6 (InsR w S) (.slice oA x.off.length oc) x.off → RdL w S 1 (num1 .u8) (.slice bA x.bytes.length bc) x.bytes →
  L (.tmp 0) = none → L (.tmp 1) = none → Calls Tryz.prog 63 #[.pointer (some ⟨mB, 0, none⟩), .int .i64 (k : Int), .agg #[.int .u8 x.mode, .slice oA x.off.length oc, .slice bA x.bytes.length bc]] w fun e w' => e = .returned (.tuple #[]) ∧ LkTo w S L u iB mB M mc (st (k + 1)).1 (st (k + 1)).2 w'
/-- What the start comes to. -/
def StartOk (u : Nat) (M : Mo) (mc : List Value) (I : In) (er : Int) (I' : In) (er' : Int) : Prop := ∀ (w : World) (S : Nat → Prop) (L : Key → Option Ck) (iB mB : Nat), Lk w S L u iB mB M mc I er → L (.tmp 0) = none → L (.tmp 1) = none →
  Calls Tryz.prog 64 #[.pointer (some ⟨mB, 0, none⟩)] w fun e w' => e = .returned (.tuple #[]) ∧ StR w S L u iB mB M I' er' w'
def MakeR (w : World) (S : Nat → Prop) (L : Key → Option Ck) (u : Nat) (M : Mo) (I : In) (er : Int) (e : Ending) (w' : World) : Prop :=
  ∃ iB S' L', (er ≠ 0 ∧ e = .returned (.tuple #[.pointer none, .int .i64 er]) ∨ er = 0 ∧ e = .returned (.tuple #[.pointer (some ⟨iB, 0, none⟩), .int .i64 0])) ∧ Si w' S' L' u iB M I ∧ Ro S w w' ∧ (∀ b, S b → S' b) ∧ ∀ q : Key, q.own ≠ some u → q ≠ .tmp 2 → q ≠ .tmp 3 → L' q = L q
theorem bro {w w1 : World} (h : Below w.heap.size w w1) {S : Nat → Prop} (hS : ∀ b, S b → b < w.heap.size) : Ro S w w1 := ⟨⟨h.size, h.os, h.output⟩, fun b hb => h.block b (hS b hb)⟩
set_option maxRecDepth 100000 in
set_option maxHeartbeats 4000000 in
theorem make_c (hs : Sep w S L) (hm : ModR w S M mc) (hw : Wf M) (k0 : L .mach = none) (k1 : L (.cfg u) = none) (t0 : L (.tmp 0) = none) (t1 : L (.tmp 1) = none) (t2 : L (.tmp 2) = none) {xA : Option Addr} {xn xc : Nat} {st : Bool} {sn : Int} {cs : Bool} {cn : Int} (hx : Mx mc xA xn xc st sn cs cn) (ess : List Es) (hF : Fine M ess)
    (stE stD : Nat → In × Int) (he0 : stE 0 = (newI M ess, 0)) (hd0 : stD 0 = stE M.elems.length) (HE : ElemOk u M mc stE) (HD : DataOk u M mc stD) (I' : In) (er' : Int) (hst : StartOk u M mc (stD M.datas.length).1 (stD M.datas.length).2 I' er') :
    Calls Tryz.prog 24 #[.agg mc.toArray] w (MakeR w S L u M I' er') := by
  obtain ⟨tA, fA, bA, mA, gA, eA, cA, dA, tc, fc, bc, mk, gc, ec, cc, dc, ⟨hmf⟩⟩ := hm.form hx
  have HN := Lib.hid (fun (w1 : World) (S1 : Nat → Prop) (hs1 : Sep w1 S1 L) (hm1 : ModR w1 S1 M mc) => new_c (u := u) hs1 hm1 hw k0 k1 hx ess hF)
  have HK := Lib.hid (And.intro t0 (And.intro t1 t2))
  have HW := Lib.hid hw
  have HM := Lib.hid hm
  have HS := Lib.hid hs
  have HEE := Lib.hid (And.intro he0 (And.intro hd0 (And.intro HE (And.intro HD hst))))
  subst hmf
  clear hs hm hw k0 k1 hx hF t0 t1 t2 he0 hd0 HE HD hst
  go_enter Tryz.func24, Tryz.ntmps24
  go_wp2_with fail
  generalize hpB : w.heap.size = pB
  have b1 : Below w.heap.size w (w.alloc (.cells #[.slice tA M.types.length tc, .slice fA M.funcs.length fc, .slice bA M.tabs.length bc, .slice mA M.mems.length mk, .slice gA M.globs.length gc, .slice xA xn xc, .bool st, .int .u32 sn, .slice eA M.elems.length ec, .bool cs, .int .u32 cn, .slice cA M.codes.length cc, .slice dA M.datas.length dc] 52)) := (Below.refl _ _).alloc (Nat.le_refl _) _
  generalize hw1 : w.alloc (.cells #[.slice tA M.types.length tc, .slice fA M.funcs.length fc, .slice bA M.tabs.length bc, .slice mA M.mems.length mk, .slice gA M.globs.length gc, .slice xA xn xc, .bool st, .int .u32 sn, .slice eA M.elems.length ec, .bool cs, .int .u32 cn, .slice cA M.codes.length cc, .slice dA M.datas.length dc] 52) = w1 at *
  have p0 : w1.cell? ⟨pB, 0, none⟩ = some (.slice tA M.types.length tc) := by rw [← hw1, ← hpB]; simp
  have p1 : w1.cell? ⟨pB, 1, none⟩ = some (.slice fA M.funcs.length fc) := by rw [← hw1, ← hpB]; simp
  have p2 : w1.cell? ⟨pB, 2, none⟩ = some (.slice bA M.tabs.length bc) := by rw [← hw1, ← hpB]; simp
  have p3 : w1.cell? ⟨pB, 3, none⟩ = some (.slice mA M.mems.length mk) := by rw [← hw1, ← hpB]; simp
  have p4 : w1.cell? ⟨pB, 4, none⟩ = some (.slice gA M.globs.length gc) := by rw [← hw1, ← hpB]; simp
  have p5 : w1.cell? ⟨pB, 5, none⟩ = some (.slice xA xn xc) := by rw [← hw1, ← hpB]; simp
  have p6 : w1.cell? ⟨pB, 6, none⟩ = some (.bool st) := by rw [← hw1, ← hpB]; simp
  have p7 : w1.cell? ⟨pB, 7, none⟩ = some (.int .u32 sn) := by rw [← hw1, ← hpB]; simp
  have p8 : w1.cell? ⟨pB, 8, none⟩ = some (.slice eA M.elems.length ec) := by rw [← hw1, ← hpB]; simp
  have p9 : w1.cell? ⟨pB, 9, none⟩ = some (.bool cs) := by rw [← hw1, ← hpB]; simp
  have p10 : w1.cell? ⟨pB, 10, none⟩ = some (.int .u32 cn) := by rw [← hw1, ← hpB]; simp
  have p11 : w1.cell? ⟨pB, 11, none⟩ = some (.slice cA M.codes.length cc) := by rw [← hw1, ← hpB]; simp
  have p12 : w1.cell? ⟨pB, 12, none⟩ = some (.slice dA M.datas.length dc) := by rw [← hw1, ← hpB]; simp
  have hlt : pB < w1.heap.size := World.block_lt_of_cell? _ _ p0
  have HS1 := Lib.hid (show Sep w1 (fun b => S b ∨ b = pB) L from (HS.out.still b1.size b1.block).more (fun k c b e1 e2 hb => by
    rcases hb with hb | rfl
    · exact HS.out.ro k c b e1 e2 hb
    · have := Ck.lt (HS.out.holds k c e1) e2
      omega) (fun b hb => by
    rcases hb with hb | rfl
    · exact Nat.lt_of_lt_of_le (HS.out.lt b hb) b1.size
    · exact hlt))
  have ro01 : Ro S w w1 := ⟨⟨b1.size, b1.os, b1.output⟩, fun b hb => b1.block b (HS.out.lt b hb)⟩
  have HNC := Lib.hid (HN.out w1 _ HS1.out (HM.out.mono (S' := fun b => S b ∨ b = pB) ro01 (fun b hb => .inl hb)))
  have HRO := Lib.hid ro01
  clear hpB hw1 b1 ro01
  refine HNC.out.mono ?_
  rintro e w2 ⟨iB, S2, L2, rfl, h2, ro2, hS2, hk2⟩
  have q8 : w2.cell? ⟨pB, 8, none⟩ = some (.slice eA M.elems.length ec) := (World.cell?_of_block (a := ⟨pB, 8, none⟩) (ro2.2 pB (.inr rfl))).trans p8
  have q12 : w2.cell? ⟨pB, 12, none⟩ = some (.slice dA M.datas.length dc) := (World.cell?_of_block (a := ⟨pB, 12, none⟩) (ro2.2 pB (.inr rfl))).trans p12
  have hpS : S2 pB := hS2 pB (.inr rfl)
  have hplt : pB < w2.heap.size := h2.si.sep.lt pB hpS
  have ro02 : Ro S w w2 := HRO.out.trans ro2 (fun b hb => .inl hb)
  have hSS : ∀ b, S b → S2 b := fun b hb => hS2 b (.inl hb)
  have qa : Below w2.heap.size w2 (w2.alloc (.cells #[.pointer (some ⟨iB, 0, none⟩), .int .i64 0] 136)) := (Below.refl _ _).alloc (Nat.le_refl _) _
  have ha : Lk (w2.alloc (.cells #[.pointer (some ⟨iB, 0, none⟩), .int .i64 0] 136)) S2 (upd L2 (.tmp 2) (.cl w2.heap.size 0 [.pointer (some ⟨iB, 0, none⟩), .int .i64 0])) u iB w2.heap.size M [.slice tA M.types.length tc, .slice fA M.funcs.length fc, .slice bA M.tabs.length bc, .slice mA M.mems.length mk, .slice gA M.globs.length gc, .slice xA xn xc, .bool st, .int .u32 sn, .slice eA M.elems.length ec, .bool cs, .int .u32 cn, .slice cA M.codes.length cc, .slice dA M.datas.length dc] (newI M ess) 0 := ⟨h2.tmp 2 ((hk2 _ (by simp [Key.own]) (by simp)).trans HK.out.2.2) #[.pointer (some ⟨iB, 0, none⟩), .int .i64 0] 136, upd_same _ _ _⟩
  have roa := bro qa h2.si.sep.lt
  have hma := HM.out.mono (S' := S2) (ro02.trans roa hSS) hSS
  obtain ⟨v8, e8, hel⟩ := hma.elems
  cases e8
  have HEL := Lib.hid hel
  obtain ⟨v12, e12, hda⟩ := hma.datas
  cases e12
  have HDA := Lib.hid hda
  have HKA := Lib.hid (show ∀ q : Key, q.own ≠ some u → q ≠ .tmp 2 → q ≠ .tmp 3 → upd L2 (.tmp 2) (.cl w2.heap.size 0 [.pointer (some ⟨iB, 0, none⟩), .int .i64 0]) q = L q from fun q a b c => by rw [upd_other _ _ b]; exact hk2 q a c)
  have HA := Lib.hid (And.intro ha (And.intro hpS (And.intro (ro02.trans roa hSS) hSS)))
  have HQ := Lib.hid (show ∀ w', Ro S2 (w2.alloc (.cells #[.pointer (some ⟨iB, 0, none⟩), .int .i64 0] 136)) w' → w'.cell? ⟨pB, 12, none⟩ = some (.slice dA M.datas.length dc) from fun w' r => (World.cell?_of_block (a := ⟨pB, 12, none⟩) (r.2 pB hpS)).trans ((qa.cell hplt).trans q12))
  clear h2 ro2 hS2 hk2 hpS ro02 hSS qa ha roa hma hel hda q12 p0 p1 p2 p3 p4 p5 p6 p7 p8 p9 p10 p11 p12 hlt
  go_wp2_with fail
  generalize hwa : w2.alloc (.cells #[.pointer (some ⟨iB, 0, none⟩), .int .i64 0] 136) = wa at *
  generalize w2.heap.size = mB at *
  generalize hLa : upd L2 (.tmp 2) (.cl mB 0 [.pointer (some ⟨iB, 0, none⟩), .int .i64 0]) = La at *
  have H0 := Lib.hid (show LkTo wa S2 La u iB mB M [.slice tA M.types.length tc, .slice fA M.funcs.length fc, .slice bA M.tabs.length bc, .slice mA M.mems.length mk, .slice gA M.globs.length gc, .slice xA xn xc, .bool st, .int .u32 sn, .slice eA M.elems.length ec, .bool cs, .int .u32 cn, .slice cA M.codes.length cc, .slice dA M.datas.length dc] (stE 0).1 (stE 0).2 wa from ⟨S2, La, by rw [HEE.out.1]; exact HA.out.1, Ro.refl _ _, fun _ h => h, fun _ _ _ => rfl⟩)
  go_loopw [25] (fun i wr => ∃ n : Nat, n ≤ M.elems.length ∧ i = .int .i64 n ∧ LkTo wa S2 La u iB mB M [.slice tA M.types.length tc, .slice fA M.funcs.length fc, .slice bA M.tabs.length bc, .slice mA M.mems.length mk, .slice gA M.globs.length gc, .slice xA xn xc, .bool st, .int .u32 sn, .slice eA M.elems.length ec, .bool cs, .int .u32 cn, .slice cA M.codes.length cc, .slice dA M.datas.length dc] (stE n).1 (stE n).2 wr) (fun i _ => M.elems.length - (intOf i).toNat)
  case atStart => exact ⟨0, Nat.zero_le _, rfl, H0.out⟩
  case round =>
    obtain ⟨n, hn, rfl, S3, L3, h3, ro3, hS3, hk3⟩ := hrel
    by_cases hlt : n < M.elems.length
    · have hx : M.elems[n]? = some M.elems[n] := List.getElem?_eq_getElem hlt
      generalize M.elems[n] = x at hx
      have hg8 := HEL.out.mono ro3 hS3 (fun _ _ h => h.mono ro3 hS3)
      obtain ⟨g, o, cs1, rfl, hSg, _, ⟨ty, ov, iv, rfl, hov, hiv⟩, hcs⟩ := hg8.get n x hx
      obtain ⟨oA, oc, rfl, _, _, _, _⟩ := id hov
      obtain ⟨iA, ic, rfl, _, _, _, _⟩ := id hiv
      have k0 := hcs 0 _ rfl
      have k1 := hcs 1 _ rfl
      have k2 := hcs 2 _ rfl
      have k3 := hcs 3 _ rfl
      have k4 := hcs 4 _ rfl
      rw [Nat.add_zero] at k0
      have hi : IntKind.i64.wrap ((n : Int) + 1) = (n : Int) + 1 := IntWalk.i64_in _ (by have := HW.out.elems.1; omega)
      have i1 : decide ((n : Int) < (M.elems.length : Int)) = true := decide_eq_true (by omega)
      have bel : Below wr.heap.size wr (wr.alloc (.cells #[.int .u8 x.mode, .int .u8 ty, .int .u32 x.table, .slice oA x.off.length oc, .slice iA x.init.length ic] 86)) := (Below.refl _ _).alloc (Nat.le_refl _) _
      have robel := bro bel h3.sm.si.sep.lt
      have HC := Lib.hid (HEE.out.2.2.1 n x hx _ S3 L3 iB mB ty oA iA oc ic (h3.still bel) (hov.mono robel (fun _ h => h) (fun _ _ hh => hh.mono robel (fun _ h => h))) (hiv.mono robel (fun _ h => h) (fun _ _ ⟨v, e, hh⟩ => ⟨v, e, hh.mono robel (fun _ h => h) (fun _ _ hh => hh.mono robel (fun _ h => h))⟩)) ((hk3 _ (by simp [Key.own]) (by simp)).trans ((HKA.out _ (by simp [Key.own]) (by simp) (by simp)).trans HK.out.1)) ((hk3 _ (by simp [Key.own]) (by simp)).trans ((HKA.out _ (by simp [Key.own]) (by simp) (by simp)).trans HK.out.2.1)))
      have H3 := Lib.hid (And.intro (ro3.trans robel hS3) (And.intro hS3 hk3))
      clear h3 ro3 hS3 hk3 hg8 hSg hcs hov hiv hx bel robel hn
      rename_i y1 y2 y3 y4 y5 y6 y7 y8 y9
      clear y1 y2 y3 y4 y5 y6 y7 y8 y9
      go_wp2_with fail
      refine HC.out.mono ?_
      rintro e w5 ⟨rfl, S5, L5, h5, ro5, hS5, hk5⟩
      have H5 := Lib.hid (show LkTo wa S2 La u iB mB M _ (stE (n + 1)).1 (stE (n + 1)).2 w5 from ⟨S5, L5, h5, H3.out.1.trans ro5 H3.out.2.1, fun b hb => hS5 b (H3.out.2.1 b hb), fun q a b => (hk5 q a b).trans (H3.out.2.2 q a b)⟩)
      clear h5 ro5 hS5 hk5
      go_wp2
      go_roundw
      case rel => exact ⟨n + 1, hlt, by go_num, H5.out⟩
      case measure => (simp [intOf]; try omega)
    · obtain rfl : n = M.elems.length := by omega
      have hd0 : decide ((M.elems.length : Int) < (M.elems.length : Int)) = false := decide_eq_false (by omega)
      have q12 := HQ.out wr ro3
      have H3 := Lib.hid (show LkTo wa S2 La u iB mB M [.slice tA M.types.length tc, .slice fA M.funcs.length fc, .slice bA M.tabs.length bc, .slice mA M.mems.length mk, .slice gA M.globs.length gc, .slice xA xn xc, .bool st, .int .u32 sn, .slice eA M.elems.length ec, .bool cs, .int .u32 cn, .slice cA M.codes.length cc, .slice dA M.datas.length dc] (stD 0).1 (stD 0).2 wr from by rw [HEE.out.2.1]; exact ⟨S3, L3, h3, ro3, hS3, hk3⟩)
      clear h3 ro3 hS3 hk3 hlt hn
      go_wp2_with fail
      go_loopw [38] (fun i wr => ∃ n : Nat, n ≤ M.datas.length ∧ i = .int .i64 n ∧ LkTo wa S2 La u iB mB M [.slice tA M.types.length tc, .slice fA M.funcs.length fc, .slice bA M.tabs.length bc, .slice mA M.mems.length mk, .slice gA M.globs.length gc, .slice xA xn xc, .bool st, .int .u32 sn, .slice eA M.elems.length ec, .bool cs, .int .u32 cn, .slice cA M.codes.length cc, .slice dA M.datas.length dc] (stD n).1 (stD n).2 wr) (fun i _ => M.datas.length - (intOf i).toNat)
      case atStart => exact ⟨0, Nat.zero_le _, rfl, H3.out⟩
      case round =>
        obtain ⟨n, hn, rfl, S3, L3, h3, ro3, hS3, hk3⟩ := hrel
        by_cases hlt : n < M.datas.length
        · have hx : M.datas[n]? = some M.datas[n] := List.getElem?_eq_getElem hlt
          generalize M.datas[n] = x at hx
          have hg8 := HDA.out.mono ro3 hS3 (fun _ _ h => h.mono ro3 hS3)
          obtain ⟨g, o, cs1, rfl, hSg, _, ⟨ov, bv, rfl, hov, hbv⟩, hcs⟩ := hg8.get n x hx
          obtain ⟨oA, oc, rfl, _, _, _, _⟩ := id hov
          obtain ⟨bA2, bc2, rfl, _, _, _, _⟩ := id hbv
          have k0 := hcs 0 _ rfl
          have k1 := hcs 1 _ rfl
          have k2 := hcs 2 _ rfl
          rw [Nat.add_zero] at k0
          have hi : IntKind.i64.wrap ((n : Int) + 1) = (n : Int) + 1 := IntWalk.i64_in _ (by have := HW.out.datas.1; omega)
          have i1 : decide ((n : Int) < (M.datas.length : Int)) = true := decide_eq_true (by omega)
          have bel : Below wr.heap.size wr (wr.alloc (.cells #[.int .u8 x.mode, .slice oA x.off.length oc, .slice bA2 x.bytes.length bc2] 45)) := (Below.refl _ _).alloc (Nat.le_refl _) _
          have robel := bro bel h3.sm.si.sep.lt
          have HC := Lib.hid (HEE.out.2.2.2.1 n x hx _ S3 L3 iB mB oA bA2 oc bc2 (h3.still bel) (hov.mono robel (fun _ h => h) (fun _ _ hh => hh.mono robel (fun _ h => h))) (hbv.mono robel (fun _ h => h) (fun _ _ hh => hh)) ((hk3 _ (by simp [Key.own]) (by simp)).trans ((HKA.out _ (by simp [Key.own]) (by simp) (by simp)).trans HK.out.1)) ((hk3 _ (by simp [Key.own]) (by simp)).trans ((HKA.out _ (by simp [Key.own]) (by simp) (by simp)).trans HK.out.2.1)))
          have H3 := Lib.hid (And.intro (ro3.trans robel hS3) (And.intro hS3 hk3))
          clear h3 ro3 hS3 hk3 hg8 hSg hcs hov hbv hx bel robel hn
          rename_i y1 y2 y3 y4 y5 y6 y7 y8 y9
          clear y1 y2 y3 y4 y5 y6 y7 y8 y9
          go_wp2_with fail
          refine HC.out.mono ?_
          rintro e w5 ⟨rfl, S5, L5, h5, ro5, hS5, hk5⟩
          have H5 := Lib.hid (show LkTo wa S2 La u iB mB M _ (stD (n + 1)).1 (stD (n + 1)).2 w5 from ⟨S5, L5, h5, H3.out.1.trans ro5 H3.out.2.1, fun b hb => hS5 b (H3.out.2.1 b hb), fun q a b => (hk5 q a b).trans (H3.out.2.2 q a b)⟩)
          clear h5 ro5 hS5 hk5
          go_wp2
          go_roundw
          case rel => exact ⟨n + 1, hlt, by go_num, H5.out⟩
          case measure => (simp [intOf]; try omega)
        · obtain rfl : n = M.datas.length := by omega
          have hd0 : decide ((M.datas.length : Int) < (M.datas.length : Int)) = false := decide_eq_false (by omega)
          have HST := Lib.hid (HEE.out.2.2.2.2 wr S3 L3 iB mB h3 ((hk3 _ (by simp [Key.own]) (by simp)).trans ((HKA.out _ (by simp [Key.own]) (by simp) (by simp)).trans HK.out.1)) ((hk3 _ (by simp [Key.own]) (by simp)).trans ((HKA.out _ (by simp [Key.own]) (by simp) (by simp)).trans HK.out.2.1)))
          have H4 := Lib.hid (And.intro ro3 (And.intro hS3 hk3))
          clear h3 ro3 hS3 hk3 hlt hn
          go_wp2_with fail
          refine HST.out.mono ?_
          rintro e w6 ⟨rfl, S6, L6, h6, ht6, hk6, ro6, hS6⟩
          have m1 := h6.sep.cell0 ht6 1 _ rfl
          have HFIN := Lib.hid (show ∀ nq, Si (w6.drewN nq) S6 L6 u iB M I' ∧ Ro S w (w6.drewN nq) ∧ (∀ b, S b → S6 b) ∧ ∀ q : Key, q.own ≠ some u → q ≠ .tmp 2 → q ≠ .tmp 3 → L6 q = L q from fun nq => ⟨⟨h6.sep.drewN nq, h6.mach, h6.cfg, h6.ins.mono ⟨⟨Nat.le_refl _, rfl, rfl⟩, fun _ _ => rfl⟩ (fun _ h => h) rfl rfl rfl (fun _ => rfl) rfl rfl rfl, h6.wf⟩, (HA.out.2.2.1.trans H4.out.1 HA.out.2.2.2).trans ro6 (fun b hb => H4.out.2.1 b (HA.out.2.2.2 b hb)), fun b hb => hS6 b (H4.out.2.1 b (HA.out.2.2.2 b hb)), fun q a b c => (hk6 q a b).trans ((H4.out.2.2 q a b).trans (HKA.out q a b c))⟩)
          clear h6 ht6 hk6 ro6 hS6
          by_cases he : er' = 0
          · have e0 : (er' == 0) = true := by rw [he]; rfl
            have HE0 := Lib.hid he
            clear he
            go_wp2
            go_ret2
            exact ⟨iB, S6, L6, .inr ⟨HE0.out, rfl⟩, HFIN.out 0⟩
          · have e0 : (er' == 0) = false := beq_eq_false_iff_ne.2 he
            have HE0 := Lib.hid he
            clear he
            go_wp2_with fail
            go_quiet (fail)
            go_wp2
            go_ret2
            exact ⟨iB, S6, L6, .inl ⟨HE0.out, rfl⟩, HFIN.out _⟩
end Go.Proofs.YtmnebeikafigjaaGreatDoor
/- The fixed module's rows, and the state while its codes are put together. -/
set_option linter.unusedVariables false
set_option linter.unusedSimpArgs false
namespace Go.Proofs.YtmnebeikafigjaaGreatDoor
open Go.RowKit Go.Sep Go.St
abbrev AllB (w : World) : Nat → Prop := fun b => b < w.heap.size
theorem flt_get {α : Type} {sz : Nat} : ∀ (css : List (List α)), (∀ cs ∈ css, cs.length = sz) → ∀ (k : Nat) cs, css[k]? = some cs → ∀ (j : Nat) u, cs[j]? = some u → css.flatten[k * sz + j]? = some u
  | [], _, k, cs, h, _, _, _ => by simp at h
  | c :: r, hl, k, cs, h, j, u, hu => by
    have hc := hl c (by simp)
    cases k with
    | zero =>
      cases h
      rw [List.flatten_cons, Nat.zero_mul, Nat.zero_add, List.getElem?_append_left (List.getElem?_eq_some_iff.1 hu).1]
      exact hu
    | succ k =>
      have := flt_get r (fun cs h => hl cs (by simp [h])) k cs h j u hu
      rw [List.flatten_cons, List.getElem?_append_right (by rw [hc, Nat.succ_mul]; omega), hc, show (k + 1) * sz + j - sz = k * sz + j by rw [Nat.succ_mul]; omega]
      exact this
theorem flt_len {α : Type} {sz : Nat} : ∀ (css : List (List α)), (∀ cs ∈ css, cs.length = sz) → css.flatten.length = css.length * sz
  | [], _ => by simp
  | c :: r, hl => by
    rw [List.flatten_cons, List.length_append, hl c (by simp), flt_len r (fun cs h => hl cs (by simp [h])), List.length_cons, Nat.succ_mul]
    omega
theorem flt_at {α : Type} {sz : Nat} (hz : 0 < sz) (css : List (List α)) (hl : ∀ cs ∈ css, cs.length = sz) (i : Nat) (u : α) (h : css.flatten[i]? = some u) : ∃ k j cs, i = k * sz + j ∧ css[k]? = some cs ∧ cs[j]? = some u := by
  have hi := (List.getElem?_eq_some_iff.1 h).1
  rw [flt_len css hl] at hi
  have hk : i / sz < css.length := (Nat.div_lt_iff_lt_mul hz).2 hi
  have hm : i % sz < (css[i / sz]).length := by rw [hl _ (List.getElem_mem hk)]; exact Nat.mod_lt _ hz
  refine ⟨i / sz, i % sz, css[i / sz], by rw [Nat.mul_comm]; exact (Nat.div_add_mod i sz).symm, List.getElem?_eq_getElem hk, ?_⟩
  have := flt_get css hl (i / sz) _ (List.getElem?_eq_getElem hk) (i % sz) _ (List.getElem?_eq_getElem hm)
  rw [show i / sz * sz + i % sz = i by rw [Nat.mul_comm]; exact Nat.div_add_mod i sz] at this
  rw [this] at h
  rw [← h]
  exact List.getElem?_eq_getElem hm
/-- A list's cells. -/
theorem RdL.cells {α : Type} {w : World} {S : Nat → Prop} {sz : Nat} {R : α → List Value → Prop} (hz : 0 < sz) {A : Option Addr} {n c : Nat} {xs : List α} (h : RdL w S sz R (.slice A n c) xs) :
    ∃ css : List (List Value), css.length = xs.length ∧ (∀ cs ∈ css, cs.length = sz) ∧ (∀ (k : Nat) x cs, xs[k]? = some x → css[k]? = some cs → R x cs) ∧ Rd w sz A n css.flatten := by
  obtain ⟨A', c', e, h1, h2, h3, h4⟩ := h
  cases e
  cases xs with
  | nil => exact ⟨[], rfl, by simp, fun k x cs h => by simp at h, by simp, fun h => by simp at h⟩
  | cons x0 r =>
    obtain ⟨b, o, rfl, hS, hc⟩ := h3 (by simp)
    have : ∀ l : List α, ∀ d, (∀ (k : Nat) x, l[k]? = some x → (x0 :: r)[d + k]? = some x) → ∃ css : List (List Value), css.length = l.length ∧ (∀ cs ∈ css, cs.length = sz) ∧ (∀ (k : Nat) x cs, l[k]? = some x → css[k]? = some cs → R x cs) ∧ ∀ (k : Nat) cs, css[k]? = some cs → ∀ (j : Nat) u, cs[j]? = some u → w.cell? ⟨b, o + (d + k) * sz + j, none⟩ = some u := by
      intro l
      induction l with
      | nil => exact fun d _ => ⟨[], rfl, by simp, fun k x cs h => by simp at h, fun k cs h => by simp at h⟩
      | cons y l ih =>
        intro d hd
        obtain ⟨cs, g1, g2, g3⟩ := hc d y (by have := hd 0 y rfl; simpa using this)
        obtain ⟨css, e1, e2, e3, e4⟩ := ih (d + 1) (fun k x hk => by rw [show d + 1 + k = d + (k + 1) by omega]; exact hd (k + 1) x hk)
        refine ⟨cs :: css, by simp [e1], fun c hc => ?_, fun k x c hx hcc => ?_, fun k c hcc j u hu => ?_⟩
        · rcases List.mem_cons.1 hc with rfl | hc
          · exact g1
          · exact e2 c hc
        · cases k with
          | zero => cases hx; cases hcc; exact g2
          | succ k => exact e3 k x c hx hcc
        · cases k with
          | zero => cases hcc; exact g3 j u hu
          | succ k => rw [show d + (k + 1) = d + 1 + k by omega]; exact e4 k c hcc j u hu
    obtain ⟨css, e1, e2, e3, e4⟩ := this (x0 :: r) 0 (fun k x h => by simpa using h)
    refine ⟨css, e1, e2, e3, by rw [flt_len css e2, e1], fun hp => ⟨_, rfl, rfl, fun i u hu => ?_⟩⟩
    obtain ⟨k, j, cs, rfl, hk, hj⟩ := flt_at hz css e2 i u hu
    have := e4 k cs hk j u hj
    rw [Nat.zero_add] at this
    rw [show (Addr.mk b o none).add (k * sz + j) = ⟨b, o + (k * sz + j), none⟩ by unfold Addr.add; split <;> simp_all, ← Nat.add_assoc]
    exact this
theorem rdl_of_cells {α : Type} {w : World} {e sz : Nat} (hz : 0 < sz) {R : α → List Value → Prop} {B : Option Addr} {n c : Nat} {css : List (List Value)} {xs : List α} (h : Row w e sz (.slice B n c) css.flatten) (hl : css.length = xs.length) (hs : ∀ cs ∈ css, cs.length = sz) (hR : ∀ (k : Nat) x cs, xs[k]? = some x → css[k]? = some cs → R x cs) :
    RdL w (AllB w) sz R (.slice B n c) xs := by
  obtain ⟨A, n', c', hv, h1, hA, h2, h3, h4⟩ := id h
  cases hv
  rw [flt_len css hs, hl] at h1
  have hn : n = xs.length := Nat.eq_of_mul_eq_mul_right hz h1.symm
  subst hn
  refine ⟨B, c, rfl, h2, Nat.le_trans h2 h3, fun hp => ?_, hA⟩
  obtain ⟨g, cur, rfl, hg1, hc1, ht⟩ := h4 (by omega)
  refine ⟨g, 0, rfl, heap_lt hg1, fun k x hx => ?_⟩
  have hk : k < css.length := by rw [hl]; exact (List.getElem?_eq_some_iff.1 hx).1
  refine ⟨css[k], hs _ (List.getElem_mem hk), hR k x _ hx (List.getElem?_eq_getElem hk), fun j u hu => ?_⟩
  have := flt_get css hs k _ (List.getElem?_eq_getElem hk) j u hu
  rw [← ht, List.getElem?_take] at this
  split at this
  · simp only [World.cell?, hg1]
    simpa using this
  · cases this
/-- A block whose cells are a list's. -/
theorem rdl_block {α : Type} {w : World} {e sz b : Nat} {z : Nat × Nat} {R : α → List Value → Prop} {css : List (List Value)} {xs : List α} (hz : 0 < sz) (h : w.heap[b]? = some (.cells css.flatten.toArray e z)) (hl : css.length = xs.length) (hs : ∀ cs ∈ css, cs.length = sz)
    (hR : ∀ (k : Nat) x cs, xs[k]? = some x → css[k]? = some cs → R x cs) (hm : xs.length ≤ maxLen) : RdL w (AllB w) sz R (.slice (some ⟨b, 0, none⟩) xs.length xs.length) xs := by
  refine ⟨_, _, rfl, Nat.le_refl _, hm, fun _ => ⟨b, 0, rfl, heap_lt h, fun k x hx => ?_⟩, fun h => nomatch h⟩
  have hk : k < css.length := by rw [hl]; exact (List.getElem?_eq_some_iff.1 hx).1
  refine ⟨css[k], hs _ (List.getElem_mem hk), hR k x _ hx (List.getElem?_eq_getElem hk), fun j u hu => ?_⟩
  have := flt_get css hs k _ (List.getElem?_eq_getElem hk) j u hu
  simp only [World.cell?, h]
  simpa using this
theorem rdl_nil {α : Type} {w : World} {S : Nat → Prop} {sz : Nat} {R : α → List Value → Prop} : RdL w S sz R (.slice none 0 0) [] := ⟨none, 0, rfl, Nat.le_refl _, by simp [maxLen], fun h => by simp at h, fun _ => rfl⟩
def iV (x : Ins) : List Value := [.int .i64 x.op, .int .u32 x.a, .int .u32 x.b, .int .u64 x.n, .slice none 0 0, .int .i64 x.t]
theorem ins_block {w : World} {e b : Nat} {z : Nat × Nat} {l : List Ins} (h : w.heap[b]? = some (.cells (l.map iV).flatten.toArray e z)) (hl : ∀ x ∈ l, x.l = []) (hm : l.length ≤ maxLen) : RdL w (AllB w) 6 (InsR w (AllB w)) (.slice (some ⟨b, 0, none⟩) l.length l.length) l :=
  rdl_block (by omega) h (by simp) (fun cs hcs => by obtain ⟨x, _, rfl⟩ := List.mem_map.1 hcs; rfl) (fun k x cs hx hcs => by
    rw [List.getElem?_map, hx] at hcs
    cases hcs
    exact ⟨_, rfl, by rw [hl x (List.mem_of_getElem? hx)]; exact rdl_nil⟩) hm
theorem num_block {w : World} {e b : Nat} {z : Nat × Nat} {k : IntKind} {l : List Int} (h : w.heap[b]? = some (.cells (l.map fun x => [Value.int k x]).flatten.toArray e z)) (hm : l.length ≤ maxLen) : RdL w (AllB w) 1 (num1 k) (.slice (some ⟨b, 0, none⟩) l.length l.length) l :=
  rdl_block (by omega) h (by simp) (fun cs hcs => by obtain ⟨x, _, rfl⟩ := List.mem_map.1 hcs; rfl) (fun k x cs hx hcs => by
    rw [List.getElem?_map, hx] at hcs
    cases hcs
    rfl) hm
def bodyS (n k : Nat) : Value := .slice (some ⟨n + 13 + k, 0, none⟩) (fixedBodies[k]?.getD []).length (fixedBodies[k]?.getD []).length
def sl1 (b n : Nat) : Value := .slice (some ⟨b, 0, none⟩) n n
def nameV (l : List UInt8) : Value := .string ⟨l.toArray⟩
/-- What Fixed() lays before its loop, from block n on. -/
def fixO (n : Nat) : List Obj := [
  .cells #[.slice none 0 0, .slice none 0 0, .slice none 0 0, .slice none 0 0, .slice none 0 0, .slice none 0 0, .bool false, .int .u32 0, .slice none 0 0, .bool false, .int .u32 0, .slice none 0 0, .slice none 0 0] 52,
  .cells (iV (ins 11)).toArray 29,
  .cells (([127] : List Int).map fun x => [Value.int .u8 x]).flatten.toArray 5,
  .cells (([127] : List Int).map fun x => [Value.int .u8 x]).flatten.toArray 5,
  .cells (([127] : List Int).map fun x => [Value.int .u8 x]).flatten.toArray 5,
  .cells (([127, 127] : List Int).map fun x => [Value.int .u8 x]).flatten.toArray 5,
  .cells ([[.slice none 0 0, .slice none 0 0], [sl1 (n + 2) 1, sl1 (n + 3) 1], [.slice none 0 0, sl1 (n + 4) 1], [sl1 (n + 5) 2, .slice none 0 0]] : List (List Value)).flatten.toArray 36,
  .cells ([[.int .u32 1, .int .u32 0, .bool false]] : List (List Value)).flatten.toArray 42,
  .cells (([ins 65, ins 11] : List Ins).map iV).flatten.toArray 29,
  .cells ([[.int .u8 127, .bool true, sl1 (n + 8) 2]] : List (List Value)).flatten.toArray 121,
  .cells #[sl1 (n + 6) 4, sl1 (n + 12) 8, .slice none 0 0, sl1 (n + 7) 1, sl1 (n + 9) 1, .slice none 0 0, .bool false, .int .u32 0, .slice none 0 0, .bool false, .int .u32 0, .slice none 0 0, .slice none 0 0] 52,
  .cells #[nameV [105, 110, 99], nameV [103, 101, 116], nameV [115, 112, 105, 110], nameV [116, 114, 97, 112], nameV [112, 117, 116], nameV [112, 101, 101, 107], nameV [119, 111, 114, 107], nameV [100, 101, 101, 112]] 9,
  .cells (([1, 2, 0, 0, 3, 1, 1, 0] : List Int).map fun x => [Value.int .u32 x]).flatten.toArray 25] ++
  fixedBodies.map (fun l => .cells (l.map iV).flatten.toArray 29) ++
  [.cells ((List.range 8).map (bodyS n)).toArray 24]
def allocs (w : World) (l : List Obj) : World := l.foldl World.alloc w
theorem allocs_spec : ∀ (l : List Obj) (w : World), Below w.heap.size w (allocs w l) ∧ (allocs w l).heap.size = w.heap.size + l.length ∧ ∀ i o, l[i]? = some o → (allocs w l).heap[w.heap.size + i]? = some o
  | [], w => ⟨Below.refl _ _, rfl, fun i o h => by simp at h⟩
  | x :: r, w => by
    have hs : (w.alloc x).heap.size = w.heap.size + 1 := by simp
    obtain ⟨h1, h2, h3⟩ := allocs_spec r (w.alloc x)
    have hb : Below w.heap.size w (w.alloc x) := (Below.refl _ _).alloc (Nat.le_refl _) _
    refine ⟨below_then hb h1, ?_, fun i o h => ?_⟩
    · show (allocs (w.alloc x) r).heap.size = _
      rw [h2, hs, List.length_cons]
      omega
    · show (allocs (w.alloc x) r).heap[w.heap.size + i]? = some o
      cases i with
      | zero =>
        cases h
        exact (h1.block w.heap.size (by omega)).trans (Go.MapKept.heap_alloc w x).1
      | succ i => rw [show w.heap.size + (i + 1) = (w.alloc x).heap.size + i by omega]; exact h3 i o h
theorem sets_plain (b : Nat) : ∀ (vs : List Value) (o : Nat) (w : World), (∀ k, k ≠ b → (w.setCells b o vs).heap[k]? = w.heap[k]?) ∧ (w.setCells b o vs).heap.size = w.heap.size ∧ (w.setCells b o vs).os = w.os ∧ (w.setCells b o vs).tape = w.tape ∧ (w.setCells b o vs).output = w.output
  | [], _, _ => ⟨fun _ _ => rfl, rfl, rfl, rfl, rfl⟩
  | v :: r, o, w => by
    obtain ⟨h1, h2, h3, h4, h5⟩ := sets_plain b r (o + 1) (w.setCell ⟨b, o, none⟩ v)
    exact ⟨fun k hk => (h1 k hk).trans (Below.heap_setCell _ _ _ _ hk), h2.trans (by simp [World.setCell]), h3, h4, h5⟩
/-- While the exports and the codes are put together: W: the world before the loop; m: the module's block. -/
structure Fst (W : World) (m : Nat) (xv cv : Value) (xs cs : List Value) (ev dv : Value) (w : World) : Prop where
  rx : Row w 123 3 xv xs
  fx : ∀ k, rowBlock xv = some k → W.heap.size ≤ k
  rc : Row w 39 2 cv cs
  fc : ∀ k, rowBlock cv = some k → W.heap.size ≤ k
  ne : ∀ k, rowBlock xv = some k → rowBlock cv ≠ some k
  bel : Below m W w
  keep : ∀ b, b < W.heap.size → b ≠ m → w.heap[b]? = W.heap[b]?
  lt : m < W.heap.size
  mod : ∀ i, i ≠ 5 → i ≠ 11 → w.cell? ⟨m, i, none⟩ = W.cell? ⟨m, i, none⟩
  m5 : w.cell? ⟨m, 5, none⟩ = some ev
  m11 : w.cell? ⟨m, 11, none⟩ = some dv
  fz : ∀ j, w.frozen? ⟨m, j, none⟩ = false
section
variable {W w w1 : World} {m : Nat} {xv cv ev dv v1 : Value} {xs cs ys : List Value}
theorem Fst.mlt (h : Fst W m xv cv xs cs ev dv w) : m < w.heap.size := Nat.lt_of_lt_of_le h.lt h.bel.size
theorem Fst.still (h : Fst W m xv cv xs cs ev dv w) (q : Below w.heap.size w w1) : Fst W m xv cv xs cs ev dv w1 :=
  ⟨h.rx.move fun k hk => q.block k (h.rx.lt hk), h.fx, h.rc.move fun k hk => q.block k (h.rc.lt hk), h.fc, h.ne, ⟨q.os.trans h.bel.os, q.tape.trans h.bel.tape, q.output.trans h.bel.output, Nat.le_trans h.bel.size q.size, fun k hk => (q.block k (Nat.lt_trans hk h.mlt)).trans (h.bel.block k hk)⟩,
   fun b hb hne => (q.block b (Nat.lt_of_lt_of_le hb h.bel.size)).trans (h.keep b hb hne), h.lt, fun i h1 h2 => (q.cell h.mlt).trans (h.mod i h1 h2), (q.cell h.mlt).trans h.m5, (q.cell h.mlt).trans h.m11, fun j => (q.frozen h.mlt).trans (h.fz j)⟩
theorem Fst.far (h : Fst W m xv cv xs cs ev dv w) {b i : Nat} (hb : b < W.heap.size) (hne : b ≠ m) : w.cell? ⟨b, i, none⟩ = W.cell? ⟨b, i, none⟩ := World.cell?_of_block (a := ⟨b, i, none⟩) (h.keep b hb hne)
theorem rd_new (w : World) (l : List Value) {sz e : Nat} (hl : l.length = sz) : Rd (w.alloc (.cells l.toArray e)) sz (some ⟨w.heap.size, 0, none⟩) 1 l := ⟨by omega, fun _ => ⟨_, rfl, rfl, fun j u hu => by
  rw [show (Addr.mk w.heap.size 0 none).add j = ⟨w.heap.size, j, none⟩ by unfold Addr.add; split <;> simp_all]
  simp only [World.cell?, (Go.MapKept.heap_alloc w (.cells l.toArray e)).1]
  rw [← List.getElem?_toArray] at hu
  exact hu⟩⟩
/-- The exports' row is made longer. -/
theorem Fst.appX (h : Fst W m xv cv xs cs ev dv w) (hr : Row w1 123 3 v1 ys) (hg : w.grownBy w1 (rowBlock xv)) (ha : rowBlock v1 = rowBlock xv ∨ ∃ k, rowBlock v1 = some k ∧ w.heap.size ≤ k) : Fst W m v1 cv ys cs ev dv w1 := by
  have far : ∀ k, k < w.heap.size → (∀ q, rowBlock xv = some q → k ≠ q) → w1.heap[k]? = w.heap[k]? := fun k hk hne => hg.block k hk (fun e => hne k e.symm rfl)
  have nm : ∀ q, rowBlock xv = some q → m ≠ q := fun q hq e => by have := h.fx q hq; have := h.lt; omega
  have hb := far m h.mlt nm
  refine ⟨hr, fun q hq => ?_, h.rc.move fun k hk => far k (h.rc.lt hk) (fun q hq e => h.ne q hq (e ▸ hk)), h.fc, fun q hq hc => ?_, ⟨hg.os.trans h.bel.os, hg.tape.trans h.bel.tape, hg.output.trans h.bel.output, Nat.le_trans h.bel.size hg.size, fun k hk => (far k (Nat.lt_trans hk h.mlt) (fun q hq e => by have := h.fx q hq; have := h.lt; omega)).trans (h.bel.block k hk)⟩,
    fun b hb hne => (far b (Nat.lt_of_lt_of_le hb h.bel.size) (fun q hq e => by have := h.fx q hq; omega)).trans (h.keep b hb hne), h.lt, fun i h1 h2 => (World.cell?_of_block (a := ⟨m, i, none⟩) hb).trans (h.mod i h1 h2), (World.cell?_of_block (a := ⟨m, 5, none⟩) hb).trans h.m5, (World.cell?_of_block (a := ⟨m, 11, none⟩) hb).trans h.m11, fun j => by
      have := h.fz j
      simp only [World.frozen?, hb] at this ⊢
      exact this⟩
  · rcases ha with ha | ⟨k, hk, hle⟩
    · exact h.fx q (ha ▸ hq)
    · rw [hk] at hq; cases hq; exact Nat.le_trans h.bel.size hle
  · rcases ha with ha | ⟨k, hk, hle⟩
    · exact h.ne q (ha ▸ hq) hc
    · rw [hk] at hq
      cases hq
      have := h.rc.lt hc
      omega
/-- The codes' row is made longer. -/
theorem Fst.appC (h : Fst W m xv cv xs cs ev dv w) (hr : Row w1 39 2 v1 ys) (hg : w.grownBy w1 (rowBlock cv)) (ha : rowBlock v1 = rowBlock cv ∨ ∃ k, rowBlock v1 = some k ∧ w.heap.size ≤ k) : Fst W m xv v1 xs ys ev dv w1 := by
  have far : ∀ k, k < w.heap.size → (∀ q, rowBlock cv = some q → k ≠ q) → w1.heap[k]? = w.heap[k]? := fun k hk hne => hg.block k hk (fun e => hne k e.symm rfl)
  have nm : ∀ q, rowBlock cv = some q → m ≠ q := fun q hq e => by have := h.fc q hq; have := h.lt; omega
  have hb := far m h.mlt nm
  refine ⟨h.rx.move fun k hk => far k (h.rx.lt hk) (fun q hq e => h.ne k hk (e ▸ hq)), h.fx, hr, fun q hq => ?_, fun q hq hc => ?_, ⟨hg.os.trans h.bel.os, hg.tape.trans h.bel.tape, hg.output.trans h.bel.output, Nat.le_trans h.bel.size hg.size, fun k hk => (far k (Nat.lt_trans hk h.mlt) (fun q hq e => by have := h.fc q hq; have := h.lt; omega)).trans (h.bel.block k hk)⟩,
    fun b hb hne => (far b (Nat.lt_of_lt_of_le hb h.bel.size) (fun q hq e => by have := h.fc q hq; omega)).trans (h.keep b hb hne), h.lt, fun i h1 h2 => (World.cell?_of_block (a := ⟨m, i, none⟩) hb).trans (h.mod i h1 h2), (World.cell?_of_block (a := ⟨m, 5, none⟩) hb).trans h.m5, (World.cell?_of_block (a := ⟨m, 11, none⟩) hb).trans h.m11, fun j => by
      have := h.fz j
      simp only [World.frozen?, hb] at this ⊢
      exact this⟩
  · rcases ha with ha | ⟨k, hk, hle⟩
    · exact h.fc q (ha ▸ hq)
    · rw [hk] at hq; cases hq; exact Nat.le_trans h.bel.size hle
  · rcases ha with ha | ⟨k, hk, hle⟩
    · exact h.ne q hq (ha ▸ hc)
    · rw [hk] at hc
      cases hc
      have := h.rx.lt hq
      omega
theorem Fst.set (h : Fst W m xv cv xs cs ev dv w) (i : Nat) (hi : i = 5 ∨ i = 11) (v : Value) : Fst W m xv cv xs cs (if i = 5 then v else ev) (if i = 11 then v else dv) (w.setCell ⟨m, i, none⟩ v) := by
  have far : ∀ k, k ≠ m → (w.setCell ⟨m, i, none⟩ v).heap[k]? = w.heap[k]? := fun k hk => Below.heap_setCell _ _ _ _ hk
  have other : ∀ j, j ≠ i → (w.setCell ⟨m, i, none⟩ v).cell? ⟨m, j, none⟩ = w.cell? ⟨m, j, none⟩ := fun j hj => World.cell?_setCell_other _ _ _ _ (fun e => hj (by injection e with _ e2; exact e2.symm))
  have ne1 : ∀ k, rowBlock xv = some k → k ≠ m := fun k hk e => by have := h.fx k hk; have := h.lt; omega
  have ne2 : ∀ k, rowBlock cv = some k → k ≠ m := fun k hk e => by have := h.fc k hk; have := h.lt; omega
  refine ⟨h.rx.move fun k hk => far k (ne1 k hk), h.fx, h.rc.move fun k hk => far k (ne2 k hk), h.fc, h.ne, ⟨h.bel.os, h.bel.tape, h.bel.output, by simpa [World.setCell] using h.bel.size, fun k hk => (far k (Nat.ne_of_lt hk)).trans (h.bel.block k hk)⟩, fun b hb hne => (far b hne).trans (h.keep b hb hne), h.lt, fun j h1 h2 => ?_, ?_, ?_, fun j => by rw [World.frozen?_setCell]; exact h.fz j⟩
  · exact (other j (by rcases hi with rfl | rfl <;> assumption)).trans (h.mod j h1 h2)
  · rcases hi with rfl | rfl
    · exact World.cell?_setCell_same _ _ _ h.m5
    · exact (other 5 (by decide)).trans h.m5
  · rcases hi with rfl | rfl
    · exact (other 11 (by decide)).trans h.m11
    · exact World.cell?_setCell_same _ _ _ h.m11
end
end Go.Proofs.YtmnebeikafigjaaGreatDoor
