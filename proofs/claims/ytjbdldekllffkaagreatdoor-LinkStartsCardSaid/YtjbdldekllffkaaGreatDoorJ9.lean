/- Lemmas of the walk, part 9. -/
import Derived.Test.YtjbdldekllffkaaGreatDoorJ8
/- inst's New. -/
set_option linter.unusedVariables false
set_option linter.unusedSimpArgs false
namespace Go.Proofs.YtjbdldekllffkaaGreatDoor
open Go.RowKit Go.Sep Go.St
variable {w : World} {S : Nat → Prop} {L : Key → Option Ck} {u : Nat} {M : Mo} {mc : List Value}
def newI (M : Mo) (ess : List Es) : In := { blocks := ess.map getE, mem := memC M, tabs := tabsC M.tabs, glo := M.globs.map valueC, els := List.replicate M.elems.length false, das := List.replicate M.datas.length false }
/-- What a module must have for an instance to be made of it. -/
structure Fine (M : Mo) (ess : List Es) : Prop where
  mems : M.mems.length ≤ 1 ∧ ∀ x ∈ M.mems, x.min ≤ 1
  tabs : M.tabs.length ≤ 1000 ∧ ∀ x ∈ M.tabs, x.min ≤ 64
  len : ess.length = M.codes.length
  codes : M.codes.length ≤ 1000
  walk : ∀ (k : Nat) c es, M.codes[k]? = some c → ess[k]? = some es → WalkOk c.body es
def NewR (w : World) (S : Nat → Prop) (L : Key → Option Ck) (u : Nat) (M : Mo) (mc : List Value) (I : In) (e : Ending) (w' : World) : Prop :=
  ∃ iB S' L', e = .returned (.tuple #[.pointer (some ⟨iB, 0, none⟩), .int .i64 0]) ∧ Sm w' S' L' u iB M mc I ∧ Ro S w w' ∧ (∀ b, S b → S' b) ∧ ∀ q : Key, q.own ≠ some u → q ≠ .tmp 3 → L' q = L q
theorem rd_cell1 (w : World) (v : Value) (t : Nat) : Rd (w.alloc (.cells #[v] t)) 1 (some ⟨w.heap.size, 0, none⟩) 1 [v] := ⟨rfl, fun _ => ⟨_, rfl, rfl, fun j u hu => by
  cases j with
  | zero => simp at hu; subst hu; simp [Addr.add]
  | succ j => simp at hu⟩⟩
theorem with_world {P : Act → World → Prop} {a : Act} {W : World} (X : World → Prop) (h1 : X W) (h2 : X W → P a W) : P a W := h2 h1
set_option maxRecDepth 100000 in
set_option maxHeartbeats 4000000 in
theorem new_c (hs : Sep w S L) (hm : ModR w S M mc) (hw : Wf M) (k0 : L .mach = none) (k1 : L (.cfg u) = none) {xA : Option Addr} {xn xc : Nat} {st : Bool} {sn : Int} {cs : Bool} {cn : Int} (hx : Mx mc xA xn xc st sn cs cn) (ess : List Es) (hF : Fine M ess) :
    Calls Tryz.prog 85 #[.agg mc.toArray] w (NewR w S L u M mc (newI M ess)) := by
  obtain ⟨tA, fA, bA, mA, gA, eA, cA, dA, tc, fc, bc, mk, gc, ec, cc, dc, ⟨hmf⟩⟩ := hm.form hx
  have HST := Lib.hid (fun (w1 : World) (S1 : Nat → Prop) (hs1 : Sep w1 S1 L) (hm1 : ModR w1 S1 M mc) (ea : Bool) => mkr_start (u := u) hs1 hm1 hw k0 k1 (Below.refl _ _) ea)
  have HF := Lib.hid (And.intro hF hw)
  have HM := Lib.hid hm
  have HS := Lib.hid hs
  have he : M.elems.length ≤ 1000000 := by have := hw.elems.1; omega
  have hd : M.datas.length ≤ 1000000 := by have := hw.datas.1; omega
  have mkE := fun w => run_mk w 42 4 (.bool false) 1 Tryz.underlying42 infoBool rfl (by omega) M.elems.length he .i64 .i64
  have mkD := fun w => run_mk w 42 4 (.bool false) 1 Tryz.underlying42 infoBool rfl (by omega) M.datas.length hd .i64 .i64
  subst hmf
  clear hs hm hw k0 k1 hx hF he hd
  generalize hEN : M.elems.length = en at mkE
  generalize hDN : M.datas.length = dn at mkD
  rw [hEN, hDN] at HST HM
  go_enter Tryz.func85, Tryz.ntmps85
  go_wp2_with fail
  generalize hpB : w.heap.size = pB
  have b1 : Below w.heap.size w (w.alloc (.cells #[.slice tA M.types.length tc, .slice fA M.funcs.length fc, .slice bA M.tabs.length bc, .slice mA M.mems.length mk, .slice gA M.globs.length gc, .slice xA xn xc, .bool st, .int .u32 sn, .slice eA en ec, .bool cs, .int .u32 cn, .slice cA M.codes.length cc, .slice dA dn dc] 39)) := (Below.refl _ _).alloc (Nat.le_refl _) _
  generalize hw1 : w.alloc (.cells #[.slice tA M.types.length tc, .slice fA M.funcs.length fc, .slice bA M.tabs.length bc, .slice mA M.mems.length mk, .slice gA M.globs.length gc, .slice xA xn xc, .bool st, .int .u32 sn, .slice eA en ec, .bool cs, .int .u32 cn, .slice cA M.codes.length cc, .slice dA dn dc] 39) = w1 at *
  have p0 : w1.cell? ⟨pB, 0, none⟩ = some (.slice tA M.types.length tc) := by rw [← hw1, ← hpB]; simp
  have p1 : w1.cell? ⟨pB, 1, none⟩ = some (.slice fA M.funcs.length fc) := by rw [← hw1, ← hpB]; simp
  have p2 : w1.cell? ⟨pB, 2, none⟩ = some (.slice bA M.tabs.length bc) := by rw [← hw1, ← hpB]; simp
  have p3 : w1.cell? ⟨pB, 3, none⟩ = some (.slice mA M.mems.length mk) := by rw [← hw1, ← hpB]; simp
  have p4 : w1.cell? ⟨pB, 4, none⟩ = some (.slice gA M.globs.length gc) := by rw [← hw1, ← hpB]; simp
  have p5 : w1.cell? ⟨pB, 5, none⟩ = some (.slice xA xn xc) := by rw [← hw1, ← hpB]; simp
  have p6 : w1.cell? ⟨pB, 6, none⟩ = some (.bool st) := by rw [← hw1, ← hpB]; simp
  have p7 : w1.cell? ⟨pB, 7, none⟩ = some (.int .u32 sn) := by rw [← hw1, ← hpB]; simp
  have p8 : w1.cell? ⟨pB, 8, none⟩ = some (.slice eA en ec) := by rw [← hw1, ← hpB]; simp
  have p9 : w1.cell? ⟨pB, 9, none⟩ = some (.bool cs) := by rw [← hw1, ← hpB]; simp
  have p10 : w1.cell? ⟨pB, 10, none⟩ = some (.int .u32 cn) := by rw [← hw1, ← hpB]; simp
  have p11 : w1.cell? ⟨pB, 11, none⟩ = some (.slice cA M.codes.length cc) := by rw [← hw1, ← hpB]; simp
  have p12 : w1.cell? ⟨pB, 12, none⟩ = some (.slice dA dn dc) := by rw [← hw1, ← hpB]; simp
  have hlt : pB < w1.heap.size := World.block_lt_of_cell? _ _ p0
  have KEY := Lib.hid (show ∀ w', Below w1.heap.size w1 w' → w'.cell? ⟨pB, 0, none⟩ = some (.slice tA M.types.length tc) ∧ w'.cell? ⟨pB, 1, none⟩ = some (.slice fA M.funcs.length fc) ∧ w'.cell? ⟨pB, 2, none⟩ = some (.slice bA M.tabs.length bc) ∧ w'.cell? ⟨pB, 3, none⟩ = some (.slice mA M.mems.length mk) ∧ w'.cell? ⟨pB, 4, none⟩ = some (.slice gA M.globs.length gc) ∧ w'.cell? ⟨pB, 5, none⟩ = some (.slice xA xn xc) ∧ w'.cell? ⟨pB, 6, none⟩ = some (.bool st) ∧ w'.cell? ⟨pB, 7, none⟩ = some (.int .u32 sn) ∧ w'.cell? ⟨pB, 8, none⟩ = some (.slice eA en ec) ∧ w'.cell? ⟨pB, 9, none⟩ = some (.bool cs) ∧ w'.cell? ⟨pB, 10, none⟩ = some (.int .u32 cn) ∧ w'.cell? ⟨pB, 11, none⟩ = some (.slice cA M.codes.length cc) ∧ w'.cell? ⟨pB, 12, none⟩ = some (.slice dA dn dc) from fun w' hb => ⟨(hb.cell hlt).trans p0, (hb.cell hlt).trans p1, (hb.cell hlt).trans p2, (hb.cell hlt).trans p3, (hb.cell hlt).trans p4, (hb.cell hlt).trans p5, (hb.cell hlt).trans p6, (hb.cell hlt).trans p7, (hb.cell hlt).trans p8, (hb.cell hlt).trans p9, (hb.cell hlt).trans p10, (hb.cell hlt).trans p11, (hb.cell hlt).trans p12⟩)
  have HB := Lib.hid b1
  have HS1 := Lib.hid (show Sep w1 (fun b => S b ∨ b = pB) L from (HS.out.still b1.size b1.block).more (fun k c b e1 e2 hb => by
    rcases hb with hb | rfl
    · exact HS.out.ro k c b e1 e2 hb
    · have := Ck.lt (HS.out.holds k c e1) e2
      omega) (fun b hb => by
    rcases hb with hb | rfl
    · exact Nat.lt_of_lt_of_le (HS.out.lt b hb) b1.size
    · exact hlt))
  have ro01 : Ro S w w1 := ⟨⟨b1.size, b1.os, b1.output⟩, fun b hb => b1.block b (HS.out.lt b hb)⟩
  have HM1 := Lib.hid (HM.out.mono (S' := fun b => S b ∨ b = pB) ro01 (fun b hb => .inl hb))
  have HRO := Lib.hid ro01
  clear hpB hw1 b1 ro01
  refine wp_region_z (fun w' => w'.cell? ⟨pB, 0, none⟩ = some (.slice tA M.types.length tc) ∧ w'.cell? ⟨pB, 1, none⟩ = some (.slice fA M.funcs.length fc) ∧ w'.cell? ⟨pB, 2, none⟩ = some (.slice bA M.tabs.length bc) ∧ w'.cell? ⟨pB, 3, none⟩ = some (.slice mA M.mems.length mk) ∧ w'.cell? ⟨pB, 4, none⟩ = some (.slice gA M.globs.length gc) ∧ w'.cell? ⟨pB, 5, none⟩ = some (.slice xA xn xc) ∧ w'.cell? ⟨pB, 6, none⟩ = some (.bool st) ∧ w'.cell? ⟨pB, 7, none⟩ = some (.int .u32 sn) ∧ w'.cell? ⟨pB, 8, none⟩ = some (.slice eA en ec) ∧ w'.cell? ⟨pB, 9, none⟩ = some (.bool cs) ∧ w'.cell? ⟨pB, 10, none⟩ = some (.int .u32 cn) ∧ w'.cell? ⟨pB, 11, none⟩ = some (.slice cA M.codes.length cc) ∧ w'.cell? ⟨pB, 12, none⟩ = some (.slice dA dn dc)) (fun j => j == 11 || j == 12) (by kernel_rfl) ?_ (fun hHeld => ?_)
  · first | exact KEY.out _ (Below.refl _ _).drew | exact KEY.out _ ((Below.refl _ _).drew.alloc (Nat.le_refl _) _) | exact KEY.out _ (((Below.refl _ _).drew.alloc (Nat.le_refl _) _).alloc (by simp) _)
  (refine wpZ_take (i := 0) (oi := ⟨some 7, .load 39 (.tmp 1), 39, _, _, none⟩) (v := ?_) rfl (by kernel_rfl) (fun _ _ _ h => h) (by assumption) (Or.inl ⟨by rfl, ?_⟩) ?_; rotate_left 1; · ((intro w hSw; (try dsimp only at hSw); go_split_ands; go_simp) <;> (try with_reducible rfl)))
  try simp only [Act.put, List.setIfInBounds_toArray, List.set_cons_zero, List.set_cons_succ]
  (refine wpZ_take (i := 1) (oi := ⟨some 8, .fieldAddr 39 (.tmp 1) 8, 0, _, _, none⟩) (v := ?_) rfl (by kernel_rfl) (fun _ _ _ h => h) (by assumption) (Or.inl ⟨by rfl, ?_⟩) ?_; rotate_left 1; · ((intro w hSw; (try dsimp only at hSw); go_split_ands; go_simp) <;> (try with_reducible rfl)))
  try simp only [Act.put, List.setIfInBounds_toArray, List.set_cons_zero, List.set_cons_succ]
  (refine wpZ_take (i := 2) (oi := ⟨some 9, .load 35 (.tmp 8), 35, _, _, none⟩) (v := ?_) rfl (by kernel_rfl) (fun _ _ _ h => h) (by assumption) (Or.inl ⟨by rfl, ?_⟩) ?_; rotate_left 1; · ((intro w hSw; (try dsimp only at hSw); go_split_ands; go_simp) <;> (try with_reducible rfl)))
  try simp only [Act.put, List.setIfInBounds_toArray, List.set_cons_zero, List.set_cons_succ]
  (refine wpZ_take (i := 3) (oi := ⟨some 10, .call { callee := .builtin .len, args := #[.tmp 9], argTypes := #[35] }, 3, _, _, none⟩) (v := ?_) rfl (by kernel_rfl) (fun _ _ _ h => h) (by assumption) (Or.inl ⟨by rfl, ?_⟩) ?_; rotate_left 1; · ((intro w hSw; (try dsimp only at hSw); go_split_ands; go_simp) <;> (try with_reducible rfl)))
  try simp only [Act.put, List.setIfInBounds_toArray, List.set_cons_zero, List.set_cons_succ]
  (refine wpZ_take (i := 5) (oi := ⟨some 12, .fieldAddr 39 (.tmp 1) 12, 0, _, _, none⟩) (v := ?_) rfl (by kernel_rfl) (fun _ _ _ h => h) (by assumption) (Or.inl ⟨by rfl, ?_⟩) ?_; rotate_left 1; · ((intro w hSw; (try dsimp only at hSw); go_split_ands; go_simp) <;> (try with_reducible rfl)))
  try simp only [Act.put, List.setIfInBounds_toArray, List.set_cons_zero, List.set_cons_succ]
  (refine wpZ_take (i := 6) (oi := ⟨some 13, .load 37 (.tmp 12), 37, _, _, none⟩) (v := ?_) rfl (by kernel_rfl) (fun _ _ _ h => h) (by assumption) (Or.inl ⟨by rfl, ?_⟩) ?_; rotate_left 1; · ((intro w hSw; (try dsimp only at hSw); go_split_ands; go_simp) <;> (try with_reducible rfl)))
  try simp only [Act.put, List.setIfInBounds_toArray, List.set_cons_zero, List.set_cons_succ]
  (refine wpZ_take (i := 7) (oi := ⟨some 14, .call { callee := .builtin .len, args := #[.tmp 13], argTypes := #[37] }, 3, _, _, none⟩) (v := ?_) rfl (by kernel_rfl) (fun _ _ _ h => h) (by assumption) (Or.inl ⟨by rfl, ?_⟩) ?_; rotate_left 1; · ((intro w hSw; (try dsimp only at hSw); go_split_ands; go_simp) <;> (try with_reducible rfl)))
  try simp only [Act.put, List.setIfInBounds_toArray, List.set_cons_zero, List.set_cons_succ]
  refine wpZ_two (i := 4) (j := 8) (oi := ⟨some 11, .makeSlice 42 (.tmp 10) (.tmp 10), 42, _, _, none⟩) (oj := ⟨some 15, .makeSlice 42 (.tmp 14) (.tmp 14), 42, _, _, none⟩) rfl rfl (by kernel_rfl) (fun K hK => ?_) (fun K hK => ?_)
  ·
    go_simp
    refine hK.out _ _ (fun _ => by (first | exact KEY.out _ (Below.refl _ _).drew | exact KEY.out _ ((Below.refl _ _).drew.alloc (Nat.le_refl _) _) | exact KEY.out _ (((Below.refl _ _).drew.alloc (Nat.le_refl _) _).alloc (by simp) _))) (fun hh => ?_)
    have hHeld := hh rfl
    clear hK K
    try simp only [Act.put, List.setIfInBounds_toArray, List.set_cons_zero, List.set_cons_succ]
    refine wpZ_one (i := 8) (oi := ⟨some 15, .makeSlice 42 (.tmp 14) (.tmp 14), 42, _, _, none⟩) rfl (by kernel_rfl) (fun K hK => ?_)
    go_simp
    refine hK.out _ _ (fun _ => by (first | exact KEY.out _ (Below.refl _ _).drew | exact KEY.out _ ((Below.refl _ _).drew.alloc (Nat.le_refl _) _) | exact KEY.out _ (((Below.refl _ _).drew.alloc (Nat.le_refl _) _).alloc (by simp) _))) (fun hh => ?_)
    have hHeld := hh rfl
    clear hK K
    try simp only [Act.put, List.setIfInBounds_toArray, List.set_cons_zero, List.set_cons_succ]
    (refine wpZ_take (i := 9) (oi := ⟨some 16, .build 44 #[(0, .tmp 7), (5, .tmp 11), (6, .tmp 15)], 44, _, _, none⟩) (v := ?_) rfl (by kernel_rfl) (fun _ _ _ h => h) (by assumption) (Or.inl ⟨by rfl, ?_⟩) ?_; rotate_left 1; · ((intro w hSw; (try dsimp only at hSw); go_split_ands; go_simp) <;> (try with_reducible rfl)))
    try simp only [Act.put, List.setIfInBounds_toArray, List.set_cons_zero, List.set_cons_succ]
    (refine wpZ_take (i := 10) (oi := ⟨some 17, .build 217 #[(0, .tmp 16)], 217, _, _, none⟩) (v := ?_) rfl (by kernel_rfl) (fun _ _ _ h => h) (by assumption) (Or.inl ⟨by rfl, ?_⟩) ?_; rotate_left 1; · ((intro w hSw; (try dsimp only at hSw); go_split_ands; go_simp) <;> (try with_reducible rfl)))
    try simp only [Act.put, List.setIfInBounds_toArray, List.set_cons_zero, List.set_cons_succ]
    refine wpZ_one (i := 11) (oi := ⟨some 18, .box 217 (.tmp 17), 215, _, _, none⟩) rfl (by kernel_rfl) (fun K hK => ?_)
    go_simp
    refine hK.out _ _ (fun h => by simp at h) (fun _ => ?_)
    clear hK K
    try simp only [Act.put, List.setIfInBounds_toArray, List.set_cons_zero, List.set_cons_succ]
    refine wpZ_one (i := 12) (oi := ⟨some 4, .assign (.tmp 18), 215, _, _, none⟩) rfl (by kernel_rfl) (fun K hK => ?_)
    go_simp
    refine hK.out _ _ (fun h => by simp at h) (fun _ => ?_)
    clear hK K
    try simp only [Act.put, List.setIfInBounds_toArray, List.set_cons_zero, List.set_cons_succ]
    refine wpZ_done (by kernel_rfl) ?_ _
    refine with_world (fun W => ∃ ev dv : Value, ∃ L3, Mkr W (fun b => S b ∨ b = pB) L3 u (w1.heap.size + 1 + 1) M [.slice tA M.types.length tc, .slice fA M.funcs.length fc, .slice bA M.tabs.length bc, .slice mA M.mems.length mk, .slice gA M.globs.length gc, .slice xA xn xc, .bool st, .int .u32 sn, .slice eA en ec, .bool cs, .int .u32 cn, .slice cA M.codes.length cc, .slice dA dn dc] (.slice none 0 0) (.slice none 0 0) (.slice none 0 0) (.slice none 0 0) ev dv 0 [] (inst0 M) ∧ Ro (fun b => S b ∨ b = pB) w1 W ∧ ∀ q : Key, q.own ≠ some u → q ≠ .tmp 3 → L3 q = L q) ?_ ?_
    · first
        | (obtain ⟨L3, h3⟩ := HST.out w1 _ HS1.out HM1.out true _ _ _ (.inl ⟨rfl, rfl, rfl, rfl⟩); rw [show ((w1.alloc (.cells (Array.replicate en (.bool false)) 4)).alloc (.cells (Array.replicate dn (.bool false)) 4)).heap.size = w1.heap.size + 1 + 1 by simp] at h3; exact ⟨_, _, L3, h3.1.still ((Below.refl _ _).drew), h3.2.1, h3.2.2⟩)
        | (obtain ⟨L3, h3⟩ := HST.out w1 _ HS1.out HM1.out false _ _ _ (.inr ⟨rfl, rfl, rfl, rfl⟩); rw [show ((w1.alloc (.cells (Array.replicate dn (.bool false)) 4)).alloc (.cells (Array.replicate en (.bool false)) 4)).heap.size = w1.heap.size + 1 + 1 by simp] at h3; exact ⟨_, _, L3, h3.1.still ((Below.refl _ _).drew), h3.2.1, h3.2.2⟩)
    · generalize w1.heap.size + 1 + 1 = iB
      clear hHeld
      first
        | (generalize (((w1.alloc (.cells (Array.replicate en (.bool false)) 4)).alloc (.cells (Array.replicate dn (.bool false)) 4)).alloc _).drew = w4)
        | (generalize (((w1.alloc (.cells (Array.replicate dn (.bool false)) 4)).alloc (.cells (Array.replicate en (.bool false)) 4)).alloc _).drew = w4)
      clear KEY mkE mkD p0 p1 p2 p3 p5 p6 p7 p8 p9 p10 p11 p12
      rintro ⟨ev, dv, L3, h3, ro3, hk3⟩
      have H3 := Lib.hid (And.intro h3 (And.intro ro3 hk3))
      have HRM := Lib.hid (room_c h3 ⟨rfl, rfl⟩ HF.out.1.mems HF.out.1.tabs)
      clear h3 ro3 hk3
      go_wp2_with fail
      refine HRM.out.mono ?_
      rintro e w5 ⟨rfl, mv5, tv5, L5, h5, ro5, hk5⟩
      have H5 := Lib.hid (And.intro h5 (And.intro ro5 hk5))
      have HBL := Lib.hid (mblocks_c h5 ess HF.out.1.len HF.out.1.codes HF.out.1.walk)
      clear h5 ro5 hk5
      go_wp2_with fail
      refine HBL.out.mono ?_
      rintro e w6 ⟨rfl, bv6, S6, L6, h6, ro6, hS6, hk6⟩
      have H6 := Lib.hid (And.intro h6 (And.intro ro6 (And.intro hS6 hk6)))
      have i19 : w6.cell? ⟨iB, 19, none⟩ = some (.int .i64 0) := h6.cell 19 _ (h6.tail 6)
      have hro : Ro (fun b => S b ∨ b = pB) w1 w6 := (H3.out.2.1.trans' H5.out.2.1).trans' ro6
      have i4 : w6.cell? ⟨pB, 4, none⟩ = some (.slice gA M.globs.length gc) := (World.cell?_of_block (a := ⟨pB, 4, none⟩) (hro.2 pB (.inr rfl))).trans p4
      obtain ⟨v4, hv4, hgr⟩ := h6.mod.globs
      cases hv4
      have HG := Lib.hid hgr
      have HRO2 := Lib.hid hro
      have H7 := Lib.hid (show Mkr w6 S6 L6 u iB M [.slice tA M.types.length tc, .slice fA M.funcs.length fc, .slice bA M.tabs.length bc, .slice mA M.mems.length mk, .slice gA M.globs.length gc, .slice xA xn xc, .bool st, .int .u32 sn, .slice eA en ec, .bool cs, .int .u32 cn, .slice cA M.codes.length cc, .slice dA dn dc] bv6 mv5 tv5 (.slice none 0 0) ev dv 0 ess { (inst0 M) with mem := memC M, tabs := tabsC M.tabs, glo := (M.globs.take 0).map valueC } from h6)
      clear h6 ro6 hS6 hk6 hgr hro p4
      go_wp2_with fail
      go_loopw [35] (fun i wr => ∃ n : Nat, n ≤ M.globs.length ∧ i = .int .i64 n ∧ ∃ gv L', Mkr wr S6 L' u iB M [.slice tA M.types.length tc, .slice fA M.funcs.length fc, .slice bA M.tabs.length bc, .slice mA M.mems.length mk, .slice gA M.globs.length gc, .slice xA xn xc, .bool st, .int .u32 sn, .slice eA en ec, .bool cs, .int .u32 cn, .slice cA M.codes.length cc, .slice dA dn dc] bv6 mv5 tv5 gv ev dv 0 ess { (inst0 M) with mem := memC M, tabs := tabsC M.tabs, glo := (M.globs.take n).map valueC } ∧ Ro S6 w6 wr ∧ ∀ q : Key, q ≠ .glo u → q ≠ .ins u → L' q = L6 q) (fun i _ => M.globs.length - (intOf i).toNat)
      case atStart => exact ⟨0, Nat.zero_le _, rfl, _, L6, H7.out, Ro.refl _ _, fun _ _ _ => rfl⟩
      case round =>
        obtain ⟨n, hn, rfl, gv, L8, h8, ro8, hk8⟩ := hrel
        by_cases hlt : n < M.globs.length
        · have hx : M.globs[n]? = some M.globs[n] := List.getElem?_eq_getElem hlt
          generalize M.globs[n] = x at hx
          have hg8 := HG.out.mono ro8 (fun _ h => h) (fun _ _ h => h.mono ro8 (fun _ h => h))
          obtain ⟨g, o, cs1, rfl, hSg, _, ⟨ty, mu, iv, rfl, hiv⟩, hcs⟩ := hg8.get n x hx
          obtain ⟨iA, ic, rfl, _, _, _, _⟩ := id hiv
          have k0 := hcs 0 _ rfl
          have k1 := hcs 1 _ rfl
          have k2 := hcs 2 _ rfl
          rw [Nat.add_zero] at k0
          have hi : IntKind.i64.wrap ((n : Int) + 1) = (n : Int) + 1 := IntWalk.i64_in _ (by have := HF.out.2.globs.1; omega)
          have i1 : decide ((n : Int) < (M.globs.length : Int)) = true := decide_eq_true (by omega)
          have bel2 : Below wr.heap.size wr (wr.alloc (.cells #[.int .u8 ty, .bool mu, .slice iA x.length ic] 151)) := (Below.refl _ _).alloc (Nat.le_refl _) _
          have h9 := h8.still bel2
          have hiv2 := hiv.mono (S := S6) (S' := S6) (w' := (wr.alloc (.cells #[.int .u8 ty, .bool mu, .slice iA x.length ic] 151)).drew) ⟨⟨bel2.size, bel2.os, bel2.output⟩, fun b hb => bel2.block b (h8.sep.lt b hb)⟩ (fun _ h => h) (fun _ _ hh => hh.mono ⟨⟨bel2.size, bel2.os, bel2.output⟩, fun b hb => bel2.block b (h8.sep.lt b hb)⟩ (fun _ h => h))
          have HV := Lib.hid (value_c _ S6 _ x hiv2 (HF.out.2.globs.2 x (List.mem_of_getElem? hx)))
          obtain ⟨A1, m1, kk1, rfl, _, _, hxl, _⟩ := Row.rd (h9.sep.holds _ _ h9.glo)
          have hgx := Lib.hid (show ((M.globs.take (n + 1)).map valueC) = ((M.globs.take n).map valueC) ++ [valueC x] by rw [List.take_add_one, hx]; simp)
          have i16 : (wr.alloc (.cells #[.int .u8 ty, .bool mu, .slice iA x.length ic] 151)).cell? ⟨iB, 16, none⟩ = some (.slice A1 m1 kk1) := h9.cell 16 _ (h9.tail 3)
          have tB2 : (wr.alloc (.cells #[.int .u8 ty, .bool mu, .slice iA x.length ic] 151)).cell? ⟨wr.heap.size, 2, none⟩ = some (.slice iA x.length ic) := by simp
          have hrb : rowBlock (.slice A1 m1 kk1) ≠ some wr.heap.size := by
            intro hh
            have := Ck.lt (h8.sep.holds _ _ h8.glo) hh
            omega
          have HX := Lib.hid (And.intro h8 (And.intro ro8 (And.intro hk8 (And.intro hrb bel2))))
          have HLN := Lib.hid (show (M.globs.take n).length ≤ 1000 by have := HF.out.2.globs.1; simp; omega)
          clear h8 ro8 hk8 hrb bel2 hg8 hSg hcs hiv hiv2 hx hxl hn
          rename_i y1 y2 y3 y4 y5 y6 y7
          clear y1 y2 y3 y4 y5 y6 y7
          generalize hwb : wr.alloc (.cells #[.int .u8 ty, .bool mu, .slice iA x.length ic] 151) = w9 at h9 i16 tB2 HV HX
          have KEY := Lib.hid (show ∀ w', Below w9.heap.size w9 w' → w'.cell? ⟨iB, 16, none⟩ = some (.slice A1 m1 kk1) ∧ w'.cell? ⟨wr.heap.size, 2, none⟩ = some (.slice iA x.length ic) from fun w' hb => ⟨(hb.cell (World.block_lt_of_cell? _ _ i16)).trans i16, (hb.cell (World.block_lt_of_cell? _ _ tB2)).trans tB2⟩)
          have H9 := Lib.hid h9
          clear h9
          have HBY := Lib.hid (show ((ints .u64 ((M.globs.take n).map valueC)).length + 1) * 8 ≤ 140737488355328 from by rw [ints_len, List.length_map]; have := HLN.out; omega)
          have HO1 := Lib.hid (show ∀ z ∈ [Value.int .u64 (valueC x)], z.oneCell' = true by simp [Value.oneCell'])
          go_wp2_with fail
          refine wp_region_z (fun w' => w'.cell? ⟨iB, 16, none⟩ = some (.slice A1 m1 kk1) ∧ w'.cell? ⟨wr.heap.size, 2, none⟩ = some (.slice iA x.length ic)) (fun j => j == 11 || j == 12 || j == 13 || j == 14) (by kernel_rfl) ?_ (fun hHeld => ?_)
          · first | exact KEY.out _ (Below.refl _ _).drew | exact KEY.out _ HB3.out | exact KEY.out _ HB4.out | exact ⟨c16, ct⟩
          (refine wpZ_take (i := 0) (oi := ⟨some 39, .move (.tmp 4), 215, _, _, none⟩) (v := ?_) rfl (by kernel_rfl) (fun _ _ _ h => h) (by assumption) (Or.inl ⟨by rfl, ?_⟩) ?_; rotate_left 1; · ((intro w hSw; (try dsimp only at hSw); go_split_ands; go_simp) <;> (try with_reducible rfl)))
          try simp only [Act.put, List.setIfInBounds_toArray, List.set_cons_zero, List.set_cons_succ]
          (refine wpZ_take (i := 1) (oi := ⟨some 40, .move (.tmp 4), 215, _, _, none⟩) (v := ?_) rfl (by kernel_rfl) (fun _ _ _ h => h) (by assumption) (Or.inl ⟨by rfl, ?_⟩) ?_; rotate_left 1; · ((intro w hSw; (try dsimp only at hSw); go_split_ands; go_simp) <;> (try with_reducible rfl)))
          try simp only [Act.put, List.setIfInBounds_toArray, List.set_cons_zero, List.set_cons_succ]
          (refine wpZ_take (i := 2) (oi := ⟨some 41, .nilCheck (.tmp 40), 0, _, _, none⟩) (v := ?_) rfl (by kernel_rfl) (fun _ _ _ h => h) (by assumption) (Or.inl ⟨by rfl, ?_⟩) ?_; rotate_left 1; · ((intro w hSw; (try dsimp only at hSw); go_split_ands; go_simp) <;> (try with_reducible rfl)))
          try simp only [Act.put, List.setIfInBounds_toArray, List.set_cons_zero, List.set_cons_succ]
          (refine wpZ_take (i := 3) (oi := ⟨some 42, .fieldAddr 217 (.tmp 41) 0, 0, _, _, none⟩) (v := ?_) rfl (by kernel_rfl) (fun _ _ _ h => h) (by assumption) (Or.inl ⟨by rfl, ?_⟩) ?_; rotate_left 1; · ((intro w hSw; (try dsimp only at hSw); go_split_ands; go_simp) <;> (try with_reducible rfl)))
          try simp only [Act.put, List.setIfInBounds_toArray, List.set_cons_zero, List.set_cons_succ]
          (refine wpZ_take (i := 4) (oi := ⟨some 43, .fieldAddr 44 (.tmp 42) 4, 0, _, _, none⟩) (v := ?_) rfl (by kernel_rfl) (fun _ _ _ h => h) (by assumption) (Or.inl ⟨by rfl, ?_⟩) ?_; rotate_left 1; · ((intro w hSw; (try dsimp only at hSw); go_split_ands; go_simp) <;> (try with_reducible rfl)))
          try simp only [Act.put, List.setIfInBounds_toArray, List.set_cons_zero, List.set_cons_succ]
          (refine wpZ_take (i := 5) (oi := ⟨some 44, .load 23 (.tmp 43), 23, _, _, none⟩) (v := ?_) rfl (by kernel_rfl) (fun _ _ _ h => h) (by assumption) (Or.inl ⟨by rfl, ?_⟩) ?_; rotate_left 1; · ((intro w hSw; (try dsimp only at hSw); go_split_ands; go_simp) <;> (try with_reducible rfl)))
          try simp only [Act.put, List.setIfInBounds_toArray, List.set_cons_zero, List.set_cons_succ]
          (refine wpZ_take (i := 6) (oi := ⟨some 45, .fieldAddr 151 (.tmp 6) 2, 0, _, _, none⟩) (v := ?_) rfl (by kernel_rfl) (fun _ _ _ h => h) (by assumption) (Or.inl ⟨by rfl, ?_⟩) ?_; rotate_left 1; · ((intro w hSw; (try dsimp only at hSw); go_split_ands; go_simp) <;> (try with_reducible rfl)))
          try simp only [Act.put, List.setIfInBounds_toArray, List.set_cons_zero, List.set_cons_succ]
          (refine wpZ_take (i := 7) (oi := ⟨some 46, .load 57 (.tmp 45), 57, _, _, none⟩) (v := ?_) rfl (by kernel_rfl) (fun _ _ _ h => h) (by assumption) (Or.inl ⟨by rfl, ?_⟩) ?_; rotate_left 1; · ((intro w hSw; (try dsimp only at hSw); go_split_ands; go_simp) <;> (try with_reducible rfl)))
          try simp only [Act.put, List.setIfInBounds_toArray, List.set_cons_zero, List.set_cons_succ]
          refine wpZ_one (i := 8) (oi := ⟨some 47, .call { callee := .value (.func 147), args := #[.tmp 46], argTypes := #[57] }, 58, _, _, none⟩) rfl (by kernel_rfl) (fun K hK => ?_)
          go_simp; refine HV.out.mono ?_; rintro e w3 ⟨rfl, hb3⟩; have HB3 := Lib.hid (below_then (Below.refl w9.heap.size w9).drew hb3); have HB4 := Lib.hid (HB3.out.alloc HB3.out.size (.cells #[.int .u64 (valueC x)] 58)); have H10 := Lib.hid (H9.out.still HB4.out); have RD := Lib.hid (show Rd (w3.alloc (.cells #[.int .u64 (valueC x)] 58)) 1 (some ⟨w3.heap.size, 0, none⟩) 1 [.int .u64 (valueC x)] from rd_cell1 _ _ _); clear hb3 HV
          refine hK.out _ _ (fun _ => by (first | exact KEY.out _ (Below.refl _ _).drew | exact KEY.out _ HB3.out | exact KEY.out _ HB4.out | exact ⟨c16, ct⟩)) (fun hh => ?_)
          have hHeld := hh rfl
          clear hK K
          try simp only [Act.put, List.setIfInBounds_toArray, List.set_cons_zero, List.set_cons_succ]
          refine wpZ_one (i := 9) (oi := ⟨some 48, .buildSlice 23 1 #[(0, .tmp 47)], 23, _, _, none⟩) rfl (by kernel_rfl) (fun K hK => ?_)
          go_simp
          refine hK.out _ _ (fun _ => by (first | exact KEY.out _ (Below.refl _ _).drew | exact KEY.out _ HB3.out | exact KEY.out _ HB4.out | exact ⟨c16, ct⟩)) (fun hh => ?_)
          have hHeld := hh rfl
          clear hK K
          try simp only [Act.put, List.setIfInBounds_toArray, List.set_cons_zero, List.set_cons_succ]
          refine wpZ_one (i := 10) (oi := ⟨some 49, .call { callee := .builtin .append, args := #[.tmp 44, .tmp 48], argTypes := #[23, 23] }, 23, _, _, none⟩) rfl (by kernel_rfl) (fun K hK => ?_)
          refine step_append_row (by rfl) _ _ _ (by rfl) 58 1 _ 8 Tryz.underlying23 infoU64 rfl (by omega) (by omega) (.slice A1 m1 kk1) (ints .u64 ((M.globs.take n).map valueC)) (by rfl) (some ⟨w3.heap.size, 0, none⟩) 1 1 [.int .u64 (valueC x)] (by rfl) (H10.out.sep.holds _ _ H10.out.glo) RD.out HO1.out HBY.out ?_; intro B1 m2 c3 w5 hr1 hg1 ha1; obtain ⟨L5', h5, ro5, hk5, c16, z16⟩ := H10.out.glob (x := valueC x) (by have := hr1.out; rwa [show ints .u64 ((M.globs.take n).map valueC) ++ [.int .u64 (valueC x)] = ints .u64 ((M.globs.take n).map valueC ++ [valueC x]) by simp [ints]] at this) hg1.out ha1.out; have ct : w5.cell? ⟨wr.heap.size, 2, none⟩ = some (.slice iA x.length ic) := hg1.out.cell (KEY.out _ HB4.out).2 (by simpa using fun e => HX.out.2.2.2.1 e.symm); have H11 := Lib.hid (And.intro h5 (And.intro ro5 hk5)); clear h5 ro5 hk5 hr1 hg1 ha1
          refine hK.out _ _ (fun _ => by (first | exact KEY.out _ (Below.refl _ _).drew | exact KEY.out _ HB3.out | exact KEY.out _ HB4.out | exact ⟨c16, ct⟩)) (fun hh => ?_)
          have hHeld := hh rfl
          clear hK K
          try simp only [Act.put, List.setIfInBounds_toArray, List.set_cons_zero, List.set_cons_succ]
          refine wpZ_one (i := 11) (oi := ⟨some 50, .nilCheck (.tmp 39), 0, _, _, none⟩) rfl (by kernel_rfl) (fun K hK => ?_)
          go_simp
          refine hK.out _ _ (fun h => by simp at h) (fun _ => ?_)
          clear hK K
          try simp only [Act.put, List.setIfInBounds_toArray, List.set_cons_zero, List.set_cons_succ]
          refine wpZ_one (i := 12) (oi := ⟨some 51, .fieldAddr 217 (.tmp 50) 0, 0, _, _, none⟩) rfl (by kernel_rfl) (fun K hK => ?_)
          go_simp
          refine hK.out _ _ (fun h => by simp at h) (fun _ => ?_)
          clear hK K
          try simp only [Act.put, List.setIfInBounds_toArray, List.set_cons_zero, List.set_cons_succ]
          refine wpZ_one (i := 13) (oi := ⟨some 52, .fieldAddr 44 (.tmp 51) 4, 0, _, _, none⟩) rfl (by kernel_rfl) (fun K hK => ?_)
          go_simp
          refine hK.out _ _ (fun h => by simp at h) (fun _ => ?_)
          clear hK K
          try simp only [Act.put, List.setIfInBounds_toArray, List.set_cons_zero, List.set_cons_succ]
          refine wpZ_one (i := 14) (oi := ⟨none, .store 23 (.tmp 52) (.tmp 49), 0, _, _, none⟩) rfl (by kernel_rfl) (fun K hK => ?_)
          go_simp
          refine hK.out _ _ (fun h => by simp at h) (fun _ => ?_)
          clear hK K
          try simp only [Act.put, List.setIfInBounds_toArray, List.set_cons_zero, List.set_cons_succ]
          refine wpZ_done (by kernel_rfl) ?_ _
          go_wp2
          go_roundw
          case rel =>
            refine ⟨n + 1, hlt, by go_num, .slice B1 m2 c3, L5', by rw [hgx.out]; exact H11.out.1, ?_, fun q a b => (H11.out.2.2 q a b).trans (HX.out.2.2.1 q a b)⟩
            have b9 := HX.out.2.2.2.2
            have r1 : Ro S6 wr w9 := ⟨⟨b9.size, b9.os, b9.output⟩, fun b hb => b9.block b (HX.out.1.sep.lt b hb)⟩
            have b4 := HB4.out
            have r2 : Ro S6 w9 (w3.alloc (.cells #[.int .u64 (valueC x)] 58)) := ⟨⟨b4.size, b4.os, b4.output⟩, fun b hb => b4.block b (H9.out.sep.lt b hb)⟩
            exact ((HX.out.2.1.trans' r1).trans' r2).trans' H11.out.2.1
          case measure => (simp [intOf]; try omega)
        · obtain rfl : n = M.globs.length := by omega
          have hd0 : decide ((M.globs.length : Int) < (M.globs.length : Int)) = false := decide_eq_false (by omega)
          have H8 := Lib.hid (And.intro h8 (And.intro ro8 hk8))
          clear h8 ro8 hk8 hlt hn
          go_wp2
          go_ret2
          obtain ⟨S9, L9, hsm, hS9, hk9⟩ := H8.out.1.done
          refine ⟨iB, S9, L9, rfl, ?_, (HRO.out.trans HRO2.out (fun b hb => .inl hb)).trans H8.out.2.1 (fun b hb => H6.out.2.2.1 b (.inl hb)), fun b hb => hS9 b (H6.out.2.2.1 b (.inl hb)), fun q h1 h2 => ?_⟩
          · rw [List.take_length] at hsm
            exact hsm
          · have nq : ∀ k : Key, k.own = some u → q ≠ k := fun k hk e => h1 (e ▸ hk)
            rw [hk9 q h2 (nq _ rfl), H8.out.2.2 q (nq _ rfl) (nq _ rfl), H6.out.2.2.2 q h2 (nq _ rfl), H5.out.2.2 q (fun k => nq _ rfl) (nq _ rfl) (nq _ rfl) (nq _ rfl), H3.out.2.2 q h1 h2]
  ·
    go_simp
    refine hK.out _ _ (fun _ => by (first | exact KEY.out _ (Below.refl _ _).drew | exact KEY.out _ ((Below.refl _ _).drew.alloc (Nat.le_refl _) _) | exact KEY.out _ (((Below.refl _ _).drew.alloc (Nat.le_refl _) _).alloc (by simp) _))) (fun hh => ?_)
    have hHeld := hh rfl
    clear hK K
    try simp only [Act.put, List.setIfInBounds_toArray, List.set_cons_zero, List.set_cons_succ]
    refine wpZ_one (i := 4) (oi := ⟨some 11, .makeSlice 42 (.tmp 10) (.tmp 10), 42, _, _, none⟩) rfl (by kernel_rfl) (fun K hK => ?_)
    go_simp
    refine hK.out _ _ (fun _ => by (first | exact KEY.out _ (Below.refl _ _).drew | exact KEY.out _ ((Below.refl _ _).drew.alloc (Nat.le_refl _) _) | exact KEY.out _ (((Below.refl _ _).drew.alloc (Nat.le_refl _) _).alloc (by simp) _))) (fun hh => ?_)
    have hHeld := hh rfl
    clear hK K
    try simp only [Act.put, List.setIfInBounds_toArray, List.set_cons_zero, List.set_cons_succ]
    (refine wpZ_take (i := 9) (oi := ⟨some 16, .build 44 #[(0, .tmp 7), (5, .tmp 11), (6, .tmp 15)], 44, _, _, none⟩) (v := ?_) rfl (by kernel_rfl) (fun _ _ _ h => h) (by assumption) (Or.inl ⟨by rfl, ?_⟩) ?_; rotate_left 1; · ((intro w hSw; (try dsimp only at hSw); go_split_ands; go_simp) <;> (try with_reducible rfl)))
    try simp only [Act.put, List.setIfInBounds_toArray, List.set_cons_zero, List.set_cons_succ]
    (refine wpZ_take (i := 10) (oi := ⟨some 17, .build 217 #[(0, .tmp 16)], 217, _, _, none⟩) (v := ?_) rfl (by kernel_rfl) (fun _ _ _ h => h) (by assumption) (Or.inl ⟨by rfl, ?_⟩) ?_; rotate_left 1; · ((intro w hSw; (try dsimp only at hSw); go_split_ands; go_simp) <;> (try with_reducible rfl)))
    try simp only [Act.put, List.setIfInBounds_toArray, List.set_cons_zero, List.set_cons_succ]
    refine wpZ_one (i := 11) (oi := ⟨some 18, .box 217 (.tmp 17), 215, _, _, none⟩) rfl (by kernel_rfl) (fun K hK => ?_)
    go_simp
    refine hK.out _ _ (fun h => by simp at h) (fun _ => ?_)
    clear hK K
    try simp only [Act.put, List.setIfInBounds_toArray, List.set_cons_zero, List.set_cons_succ]
    refine wpZ_one (i := 12) (oi := ⟨some 4, .assign (.tmp 18), 215, _, _, none⟩) rfl (by kernel_rfl) (fun K hK => ?_)
    go_simp
    refine hK.out _ _ (fun h => by simp at h) (fun _ => ?_)
    clear hK K
    try simp only [Act.put, List.setIfInBounds_toArray, List.set_cons_zero, List.set_cons_succ]
    refine wpZ_done (by kernel_rfl) ?_ _
    refine with_world (fun W => ∃ ev dv : Value, ∃ L3, Mkr W (fun b => S b ∨ b = pB) L3 u (w1.heap.size + 1 + 1) M [.slice tA M.types.length tc, .slice fA M.funcs.length fc, .slice bA M.tabs.length bc, .slice mA M.mems.length mk, .slice gA M.globs.length gc, .slice xA xn xc, .bool st, .int .u32 sn, .slice eA en ec, .bool cs, .int .u32 cn, .slice cA M.codes.length cc, .slice dA dn dc] (.slice none 0 0) (.slice none 0 0) (.slice none 0 0) (.slice none 0 0) ev dv 0 [] (inst0 M) ∧ Ro (fun b => S b ∨ b = pB) w1 W ∧ ∀ q : Key, q.own ≠ some u → q ≠ .tmp 3 → L3 q = L q) ?_ ?_
    · first
        | (obtain ⟨L3, h3⟩ := HST.out w1 _ HS1.out HM1.out true _ _ _ (.inl ⟨rfl, rfl, rfl, rfl⟩); rw [show ((w1.alloc (.cells (Array.replicate en (.bool false)) 4)).alloc (.cells (Array.replicate dn (.bool false)) 4)).heap.size = w1.heap.size + 1 + 1 by simp] at h3; exact ⟨_, _, L3, h3.1.still ((Below.refl _ _).drew), h3.2.1, h3.2.2⟩)
        | (obtain ⟨L3, h3⟩ := HST.out w1 _ HS1.out HM1.out false _ _ _ (.inr ⟨rfl, rfl, rfl, rfl⟩); rw [show ((w1.alloc (.cells (Array.replicate dn (.bool false)) 4)).alloc (.cells (Array.replicate en (.bool false)) 4)).heap.size = w1.heap.size + 1 + 1 by simp] at h3; exact ⟨_, _, L3, h3.1.still ((Below.refl _ _).drew), h3.2.1, h3.2.2⟩)
    · generalize w1.heap.size + 1 + 1 = iB
      clear hHeld
      first
        | (generalize (((w1.alloc (.cells (Array.replicate en (.bool false)) 4)).alloc (.cells (Array.replicate dn (.bool false)) 4)).alloc _).drew = w4)
        | (generalize (((w1.alloc (.cells (Array.replicate dn (.bool false)) 4)).alloc (.cells (Array.replicate en (.bool false)) 4)).alloc _).drew = w4)
      clear KEY mkE mkD p0 p1 p2 p3 p5 p6 p7 p8 p9 p10 p11 p12
      rintro ⟨ev, dv, L3, h3, ro3, hk3⟩
      have H3 := Lib.hid (And.intro h3 (And.intro ro3 hk3))
      have HRM := Lib.hid (room_c h3 ⟨rfl, rfl⟩ HF.out.1.mems HF.out.1.tabs)
      clear h3 ro3 hk3
      go_wp2_with fail
      refine HRM.out.mono ?_
      rintro e w5 ⟨rfl, mv5, tv5, L5, h5, ro5, hk5⟩
      have H5 := Lib.hid (And.intro h5 (And.intro ro5 hk5))
      have HBL := Lib.hid (mblocks_c h5 ess HF.out.1.len HF.out.1.codes HF.out.1.walk)
      clear h5 ro5 hk5
      go_wp2_with fail
      refine HBL.out.mono ?_
      rintro e w6 ⟨rfl, bv6, S6, L6, h6, ro6, hS6, hk6⟩
      have H6 := Lib.hid (And.intro h6 (And.intro ro6 (And.intro hS6 hk6)))
      have i19 : w6.cell? ⟨iB, 19, none⟩ = some (.int .i64 0) := h6.cell 19 _ (h6.tail 6)
      have hro : Ro (fun b => S b ∨ b = pB) w1 w6 := (H3.out.2.1.trans' H5.out.2.1).trans' ro6
      have i4 : w6.cell? ⟨pB, 4, none⟩ = some (.slice gA M.globs.length gc) := (World.cell?_of_block (a := ⟨pB, 4, none⟩) (hro.2 pB (.inr rfl))).trans p4
      obtain ⟨v4, hv4, hgr⟩ := h6.mod.globs
      cases hv4
      have HG := Lib.hid hgr
      have HRO2 := Lib.hid hro
      have H7 := Lib.hid (show Mkr w6 S6 L6 u iB M [.slice tA M.types.length tc, .slice fA M.funcs.length fc, .slice bA M.tabs.length bc, .slice mA M.mems.length mk, .slice gA M.globs.length gc, .slice xA xn xc, .bool st, .int .u32 sn, .slice eA en ec, .bool cs, .int .u32 cn, .slice cA M.codes.length cc, .slice dA dn dc] bv6 mv5 tv5 (.slice none 0 0) ev dv 0 ess { (inst0 M) with mem := memC M, tabs := tabsC M.tabs, glo := (M.globs.take 0).map valueC } from h6)
      clear h6 ro6 hS6 hk6 hgr hro p4
      go_wp2_with fail
      go_loopw [35] (fun i wr => ∃ n : Nat, n ≤ M.globs.length ∧ i = .int .i64 n ∧ ∃ gv L', Mkr wr S6 L' u iB M [.slice tA M.types.length tc, .slice fA M.funcs.length fc, .slice bA M.tabs.length bc, .slice mA M.mems.length mk, .slice gA M.globs.length gc, .slice xA xn xc, .bool st, .int .u32 sn, .slice eA en ec, .bool cs, .int .u32 cn, .slice cA M.codes.length cc, .slice dA dn dc] bv6 mv5 tv5 gv ev dv 0 ess { (inst0 M) with mem := memC M, tabs := tabsC M.tabs, glo := (M.globs.take n).map valueC } ∧ Ro S6 w6 wr ∧ ∀ q : Key, q ≠ .glo u → q ≠ .ins u → L' q = L6 q) (fun i _ => M.globs.length - (intOf i).toNat)
      case atStart => exact ⟨0, Nat.zero_le _, rfl, _, L6, H7.out, Ro.refl _ _, fun _ _ _ => rfl⟩
      case round =>
        obtain ⟨n, hn, rfl, gv, L8, h8, ro8, hk8⟩ := hrel
        by_cases hlt : n < M.globs.length
        · have hx : M.globs[n]? = some M.globs[n] := List.getElem?_eq_getElem hlt
          generalize M.globs[n] = x at hx
          have hg8 := HG.out.mono ro8 (fun _ h => h) (fun _ _ h => h.mono ro8 (fun _ h => h))
          obtain ⟨g, o, cs1, rfl, hSg, _, ⟨ty, mu, iv, rfl, hiv⟩, hcs⟩ := hg8.get n x hx
          obtain ⟨iA, ic, rfl, _, _, _, _⟩ := id hiv
          have k0 := hcs 0 _ rfl
          have k1 := hcs 1 _ rfl
          have k2 := hcs 2 _ rfl
          rw [Nat.add_zero] at k0
          have hi : IntKind.i64.wrap ((n : Int) + 1) = (n : Int) + 1 := IntWalk.i64_in _ (by have := HF.out.2.globs.1; omega)
          have i1 : decide ((n : Int) < (M.globs.length : Int)) = true := decide_eq_true (by omega)
          have bel2 : Below wr.heap.size wr (wr.alloc (.cells #[.int .u8 ty, .bool mu, .slice iA x.length ic] 151)) := (Below.refl _ _).alloc (Nat.le_refl _) _
          have h9 := h8.still bel2
          have hiv2 := hiv.mono (S := S6) (S' := S6) (w' := (wr.alloc (.cells #[.int .u8 ty, .bool mu, .slice iA x.length ic] 151)).drew) ⟨⟨bel2.size, bel2.os, bel2.output⟩, fun b hb => bel2.block b (h8.sep.lt b hb)⟩ (fun _ h => h) (fun _ _ hh => hh.mono ⟨⟨bel2.size, bel2.os, bel2.output⟩, fun b hb => bel2.block b (h8.sep.lt b hb)⟩ (fun _ h => h))
          have HV := Lib.hid (value_c _ S6 _ x hiv2 (HF.out.2.globs.2 x (List.mem_of_getElem? hx)))
          obtain ⟨A1, m1, kk1, rfl, _, _, hxl, _⟩ := Row.rd (h9.sep.holds _ _ h9.glo)
          have hgx := Lib.hid (show ((M.globs.take (n + 1)).map valueC) = ((M.globs.take n).map valueC) ++ [valueC x] by rw [List.take_add_one, hx]; simp)
          have i16 : (wr.alloc (.cells #[.int .u8 ty, .bool mu, .slice iA x.length ic] 151)).cell? ⟨iB, 16, none⟩ = some (.slice A1 m1 kk1) := h9.cell 16 _ (h9.tail 3)
          have tB2 : (wr.alloc (.cells #[.int .u8 ty, .bool mu, .slice iA x.length ic] 151)).cell? ⟨wr.heap.size, 2, none⟩ = some (.slice iA x.length ic) := by simp
          have hrb : rowBlock (.slice A1 m1 kk1) ≠ some wr.heap.size := by
            intro hh
            have := Ck.lt (h8.sep.holds _ _ h8.glo) hh
            omega
          have HX := Lib.hid (And.intro h8 (And.intro ro8 (And.intro hk8 (And.intro hrb bel2))))
          have HLN := Lib.hid (show (M.globs.take n).length ≤ 1000 by have := HF.out.2.globs.1; simp; omega)
          clear h8 ro8 hk8 hrb bel2 hg8 hSg hcs hiv hiv2 hx hxl hn
          rename_i y1 y2 y3 y4 y5 y6 y7
          clear y1 y2 y3 y4 y5 y6 y7
          generalize hwb : wr.alloc (.cells #[.int .u8 ty, .bool mu, .slice iA x.length ic] 151) = w9 at h9 i16 tB2 HV HX
          have KEY := Lib.hid (show ∀ w', Below w9.heap.size w9 w' → w'.cell? ⟨iB, 16, none⟩ = some (.slice A1 m1 kk1) ∧ w'.cell? ⟨wr.heap.size, 2, none⟩ = some (.slice iA x.length ic) from fun w' hb => ⟨(hb.cell (World.block_lt_of_cell? _ _ i16)).trans i16, (hb.cell (World.block_lt_of_cell? _ _ tB2)).trans tB2⟩)
          have H9 := Lib.hid h9
          clear h9
          have HBY := Lib.hid (show ((ints .u64 ((M.globs.take n).map valueC)).length + 1) * 8 ≤ 140737488355328 from by rw [ints_len, List.length_map]; have := HLN.out; omega)
          have HO1 := Lib.hid (show ∀ z ∈ [Value.int .u64 (valueC x)], z.oneCell' = true by simp [Value.oneCell'])
          go_wp2_with fail
          refine wp_region_z (fun w' => w'.cell? ⟨iB, 16, none⟩ = some (.slice A1 m1 kk1) ∧ w'.cell? ⟨wr.heap.size, 2, none⟩ = some (.slice iA x.length ic)) (fun j => j == 11 || j == 12 || j == 13 || j == 14) (by kernel_rfl) ?_ (fun hHeld => ?_)
          · first | exact KEY.out _ (Below.refl _ _).drew | exact KEY.out _ HB3.out | exact KEY.out _ HB4.out | exact ⟨c16, ct⟩
          (refine wpZ_take (i := 0) (oi := ⟨some 39, .move (.tmp 4), 215, _, _, none⟩) (v := ?_) rfl (by kernel_rfl) (fun _ _ _ h => h) (by assumption) (Or.inl ⟨by rfl, ?_⟩) ?_; rotate_left 1; · ((intro w hSw; (try dsimp only at hSw); go_split_ands; go_simp) <;> (try with_reducible rfl)))
          try simp only [Act.put, List.setIfInBounds_toArray, List.set_cons_zero, List.set_cons_succ]
          (refine wpZ_take (i := 1) (oi := ⟨some 40, .move (.tmp 4), 215, _, _, none⟩) (v := ?_) rfl (by kernel_rfl) (fun _ _ _ h => h) (by assumption) (Or.inl ⟨by rfl, ?_⟩) ?_; rotate_left 1; · ((intro w hSw; (try dsimp only at hSw); go_split_ands; go_simp) <;> (try with_reducible rfl)))
          try simp only [Act.put, List.setIfInBounds_toArray, List.set_cons_zero, List.set_cons_succ]
          (refine wpZ_take (i := 2) (oi := ⟨some 41, .nilCheck (.tmp 40), 0, _, _, none⟩) (v := ?_) rfl (by kernel_rfl) (fun _ _ _ h => h) (by assumption) (Or.inl ⟨by rfl, ?_⟩) ?_; rotate_left 1; · ((intro w hSw; (try dsimp only at hSw); go_split_ands; go_simp) <;> (try with_reducible rfl)))
          try simp only [Act.put, List.setIfInBounds_toArray, List.set_cons_zero, List.set_cons_succ]
          (refine wpZ_take (i := 3) (oi := ⟨some 42, .fieldAddr 217 (.tmp 41) 0, 0, _, _, none⟩) (v := ?_) rfl (by kernel_rfl) (fun _ _ _ h => h) (by assumption) (Or.inl ⟨by rfl, ?_⟩) ?_; rotate_left 1; · ((intro w hSw; (try dsimp only at hSw); go_split_ands; go_simp) <;> (try with_reducible rfl)))
          try simp only [Act.put, List.setIfInBounds_toArray, List.set_cons_zero, List.set_cons_succ]
          (refine wpZ_take (i := 4) (oi := ⟨some 43, .fieldAddr 44 (.tmp 42) 4, 0, _, _, none⟩) (v := ?_) rfl (by kernel_rfl) (fun _ _ _ h => h) (by assumption) (Or.inl ⟨by rfl, ?_⟩) ?_; rotate_left 1; · ((intro w hSw; (try dsimp only at hSw); go_split_ands; go_simp) <;> (try with_reducible rfl)))
          try simp only [Act.put, List.setIfInBounds_toArray, List.set_cons_zero, List.set_cons_succ]
          (refine wpZ_take (i := 5) (oi := ⟨some 44, .load 23 (.tmp 43), 23, _, _, none⟩) (v := ?_) rfl (by kernel_rfl) (fun _ _ _ h => h) (by assumption) (Or.inl ⟨by rfl, ?_⟩) ?_; rotate_left 1; · ((intro w hSw; (try dsimp only at hSw); go_split_ands; go_simp) <;> (try with_reducible rfl)))
          try simp only [Act.put, List.setIfInBounds_toArray, List.set_cons_zero, List.set_cons_succ]
          (refine wpZ_take (i := 6) (oi := ⟨some 45, .fieldAddr 151 (.tmp 6) 2, 0, _, _, none⟩) (v := ?_) rfl (by kernel_rfl) (fun _ _ _ h => h) (by assumption) (Or.inl ⟨by rfl, ?_⟩) ?_; rotate_left 1; · ((intro w hSw; (try dsimp only at hSw); go_split_ands; go_simp) <;> (try with_reducible rfl)))
          try simp only [Act.put, List.setIfInBounds_toArray, List.set_cons_zero, List.set_cons_succ]
          (refine wpZ_take (i := 7) (oi := ⟨some 46, .load 57 (.tmp 45), 57, _, _, none⟩) (v := ?_) rfl (by kernel_rfl) (fun _ _ _ h => h) (by assumption) (Or.inl ⟨by rfl, ?_⟩) ?_; rotate_left 1; · ((intro w hSw; (try dsimp only at hSw); go_split_ands; go_simp) <;> (try with_reducible rfl)))
          try simp only [Act.put, List.setIfInBounds_toArray, List.set_cons_zero, List.set_cons_succ]
          refine wpZ_one (i := 8) (oi := ⟨some 47, .call { callee := .value (.func 147), args := #[.tmp 46], argTypes := #[57] }, 58, _, _, none⟩) rfl (by kernel_rfl) (fun K hK => ?_)
          go_simp; refine HV.out.mono ?_; rintro e w3 ⟨rfl, hb3⟩; have HB3 := Lib.hid (below_then (Below.refl w9.heap.size w9).drew hb3); have HB4 := Lib.hid (HB3.out.alloc HB3.out.size (.cells #[.int .u64 (valueC x)] 58)); have H10 := Lib.hid (H9.out.still HB4.out); have RD := Lib.hid (show Rd (w3.alloc (.cells #[.int .u64 (valueC x)] 58)) 1 (some ⟨w3.heap.size, 0, none⟩) 1 [.int .u64 (valueC x)] from rd_cell1 _ _ _); clear hb3 HV
          refine hK.out _ _ (fun _ => by (first | exact KEY.out _ (Below.refl _ _).drew | exact KEY.out _ HB3.out | exact KEY.out _ HB4.out | exact ⟨c16, ct⟩)) (fun hh => ?_)
          have hHeld := hh rfl
          clear hK K
          try simp only [Act.put, List.setIfInBounds_toArray, List.set_cons_zero, List.set_cons_succ]
          refine wpZ_one (i := 9) (oi := ⟨some 48, .buildSlice 23 1 #[(0, .tmp 47)], 23, _, _, none⟩) rfl (by kernel_rfl) (fun K hK => ?_)
          go_simp
          refine hK.out _ _ (fun _ => by (first | exact KEY.out _ (Below.refl _ _).drew | exact KEY.out _ HB3.out | exact KEY.out _ HB4.out | exact ⟨c16, ct⟩)) (fun hh => ?_)
          have hHeld := hh rfl
          clear hK K
          try simp only [Act.put, List.setIfInBounds_toArray, List.set_cons_zero, List.set_cons_succ]
          refine wpZ_one (i := 10) (oi := ⟨some 49, .call { callee := .builtin .append, args := #[.tmp 44, .tmp 48], argTypes := #[23, 23] }, 23, _, _, none⟩) rfl (by kernel_rfl) (fun K hK => ?_)
          refine step_append_row (by rfl) _ _ _ (by rfl) 58 1 _ 8 Tryz.underlying23 infoU64 rfl (by omega) (by omega) (.slice A1 m1 kk1) (ints .u64 ((M.globs.take n).map valueC)) (by rfl) (some ⟨w3.heap.size, 0, none⟩) 1 1 [.int .u64 (valueC x)] (by rfl) (H10.out.sep.holds _ _ H10.out.glo) RD.out HO1.out HBY.out ?_; intro B1 m2 c3 w5 hr1 hg1 ha1; obtain ⟨L5', h5, ro5, hk5, c16, z16⟩ := H10.out.glob (x := valueC x) (by have := hr1.out; rwa [show ints .u64 ((M.globs.take n).map valueC) ++ [.int .u64 (valueC x)] = ints .u64 ((M.globs.take n).map valueC ++ [valueC x]) by simp [ints]] at this) hg1.out ha1.out; have ct : w5.cell? ⟨wr.heap.size, 2, none⟩ = some (.slice iA x.length ic) := hg1.out.cell (KEY.out _ HB4.out).2 (by simpa using fun e => HX.out.2.2.2.1 e.symm); have H11 := Lib.hid (And.intro h5 (And.intro ro5 hk5)); clear h5 ro5 hk5 hr1 hg1 ha1
          refine hK.out _ _ (fun _ => by (first | exact KEY.out _ (Below.refl _ _).drew | exact KEY.out _ HB3.out | exact KEY.out _ HB4.out | exact ⟨c16, ct⟩)) (fun hh => ?_)
          have hHeld := hh rfl
          clear hK K
          try simp only [Act.put, List.setIfInBounds_toArray, List.set_cons_zero, List.set_cons_succ]
          refine wpZ_one (i := 11) (oi := ⟨some 50, .nilCheck (.tmp 39), 0, _, _, none⟩) rfl (by kernel_rfl) (fun K hK => ?_)
          go_simp
          refine hK.out _ _ (fun h => by simp at h) (fun _ => ?_)
          clear hK K
          try simp only [Act.put, List.setIfInBounds_toArray, List.set_cons_zero, List.set_cons_succ]
          refine wpZ_one (i := 12) (oi := ⟨some 51, .fieldAddr 217 (.tmp 50) 0, 0, _, _, none⟩) rfl (by kernel_rfl) (fun K hK => ?_)
          go_simp
          refine hK.out _ _ (fun h => by simp at h) (fun _ => ?_)
          clear hK K
          try simp only [Act.put, List.setIfInBounds_toArray, List.set_cons_zero, List.set_cons_succ]
          refine wpZ_one (i := 13) (oi := ⟨some 52, .fieldAddr 44 (.tmp 51) 4, 0, _, _, none⟩) rfl (by kernel_rfl) (fun K hK => ?_)
          go_simp
          refine hK.out _ _ (fun h => by simp at h) (fun _ => ?_)
          clear hK K
          try simp only [Act.put, List.setIfInBounds_toArray, List.set_cons_zero, List.set_cons_succ]
          refine wpZ_one (i := 14) (oi := ⟨none, .store 23 (.tmp 52) (.tmp 49), 0, _, _, none⟩) rfl (by kernel_rfl) (fun K hK => ?_)
          go_simp
          refine hK.out _ _ (fun h => by simp at h) (fun _ => ?_)
          clear hK K
          try simp only [Act.put, List.setIfInBounds_toArray, List.set_cons_zero, List.set_cons_succ]
          refine wpZ_done (by kernel_rfl) ?_ _
          go_wp2
          go_roundw
          case rel =>
            refine ⟨n + 1, hlt, by go_num, .slice B1 m2 c3, L5', by rw [hgx.out]; exact H11.out.1, ?_, fun q a b => (H11.out.2.2 q a b).trans (HX.out.2.2.1 q a b)⟩
            have b9 := HX.out.2.2.2.2
            have r1 : Ro S6 wr w9 := ⟨⟨b9.size, b9.os, b9.output⟩, fun b hb => b9.block b (HX.out.1.sep.lt b hb)⟩
            have b4 := HB4.out
            have r2 : Ro S6 w9 (w3.alloc (.cells #[.int .u64 (valueC x)] 58)) := ⟨⟨b4.size, b4.os, b4.output⟩, fun b hb => b4.block b (H9.out.sep.lt b hb)⟩
            exact ((HX.out.2.1.trans' r1).trans' r2).trans' H11.out.2.1
          case measure => (simp [intOf]; try omega)
        · obtain rfl : n = M.globs.length := by omega
          have hd0 : decide ((M.globs.length : Int) < (M.globs.length : Int)) = false := decide_eq_false (by omega)
          have H8 := Lib.hid (And.intro h8 (And.intro ro8 hk8))
          clear h8 ro8 hk8 hlt hn
          go_wp2
          go_ret2
          obtain ⟨S9, L9, hsm, hS9, hk9⟩ := H8.out.1.done
          refine ⟨iB, S9, L9, rfl, ?_, (HRO.out.trans HRO2.out (fun b hb => .inl hb)).trans H8.out.2.1 (fun b hb => H6.out.2.2.1 b (.inl hb)), fun b hb => hS9 b (H6.out.2.2.1 b (.inl hb)), fun q h1 h2 => ?_⟩
          · rw [List.take_length] at hsm
            exact hsm
          · have nq : ∀ k : Key, k.own = some u → q ≠ k := fun k hk e => h1 (e ▸ hk)
            rw [hk9 q h2 (nq _ rfl), H8.out.2.2 q (nq _ rfl) (nq _ rfl), H6.out.2.2.2 q h2 (nq _ rfl), H5.out.2.2 q (fun k => nq _ rfl) (nq _ rfl) (nq _ rfl) (nq _ rfl), H3.out.2.2 q h1 h2]
end Go.Proofs.YtjbdldekllffkaaGreatDoor
/- slice's All. -/
set_option linter.unusedVariables false
namespace Go.Proofs.YtjbdldekllffkaaGreatDoor
open Go.RowKit Go.Sep Go.St
variable {w : World} {S : Nat → Prop} {L : Key → Option Ck} {u : Nat} {M : Mo}
theorem Sv.si {iB : Nat} {C : Cf} {I : In} {fv sv vv : Value} (h : Sv w S L u iB M C I fv sv vv) : Si w S L u iB M I := ⟨h.sep, h.mach, h.cfg, h.ins, h.wf⟩
theorem Sv.forms {iB : Nat} {C : Cf} {I : In} {fv sv vv : Value} (h : Sv w S L u iB M C I fv sv vv) : ∃ fA fn fc sA sn sc vA vn vc, fv = .slice fA fn fc ∧ sv = .slice sA sn sc ∧ vv = .slice vA vn vc := by
  obtain ⟨_, _, q3, _⟩ := h.frs
  obtain ⟨A, n, c, e, _⟩ := h.sep.holds _ _ q3
  obtain ⟨A2, n2, c2, e2, _⟩ := h.sep.holds _ _ h.st
  obtain ⟨A3, n3, c3, e3, _⟩ := h.sep.holds _ _ h.va
  exact ⟨A, n, c, A2, n2, c2, A3, n3, c3, e, e2, e3⟩
def endOf (C : Cf) : Cf := if C.ov then C else endsC 8
set_option maxRecDepth 100000 in
set_option maxHeartbeats 1000000 in
theorem all_c {iB : Nat} {I : In} (h : Si w S L u iB M I) (h0 : L (.tmp 0) = none) (h1 : L (.tmp 1) = none) (f : Nat) (hf : f < 4294967296) (A : Option Addr) (m c : Nat) (args : List Int) (hargs : RdL w S 1 (num1 .u64) (.slice A m c) args) (hw : U64 args)
    (st : Nat → Cf × In) (hst0 : st 0 = (openC M I.blocks.length cf0 f args, I)) (n : Nat) (hs : ∀ k, k < n → StepOk M (st k) (st (k + 1))) (most : Int) (hn : (n : Int) ≤ most ∨ n = 0) (hn2 : n < 4611686018427387904) (hend : (st n).1.ov = true ∨ most ≤ n) :
    Calls Tryz.prog 31 #[.pointer (some ⟨iB, 0, none⟩), .int .u32 (f : Int), .int .i64 most, .slice A m c] w (BegR w S L u iB M (endOf (st n).1) (st n).2) := by
  have hi := h.tmp 1 h1 #[.slice none 0 0, .slice none 0 0, .bool false, .int .i64 0, .slice none 0 0] 48
  have HB := Lib.hid (begin_c hi (by rw [upd_other _ _ (by simp)]; exact h0) f hf A m c args (hargs.mono (((Still.refl w).alloc _).ro h.sep.lt) (fun _ h => h) (fun _ _ h => h)) hw)
  have HH := Lib.hid (And.intro h (And.intro h0 (And.intro h1 (And.intro hst0 (And.intro hs (And.intro hn (And.intro hn2 hend)))))))
  clear h h0 h1 hf hargs hw hst0 hs hn hn2 hend hi
  go_enter Tryz.func31, Tryz.ntmps31
  go_wp2_with fail
  refine HB.out.mono ?_
  rintro e w2 ⟨fv, sv, vv, S2, L2, rfl, hv, k2, ro2, hS2⟩
  obtain ⟨fA, fn, fc, sA, sn, sc, vA, vn, vc, rfl, rfl, rfl⟩ := hv.forms
  have hd := hv.put
  have hms : (⟨openC M I.blocks.length cf0 (f : Int) args, I, none⟩ : Ms) = ms (st 0) := by rw [HH.out.2.2.2.1]; rfl
  have hd' := hd
  rw [hms] at hd'
  clear hms
  have HR := Lib.hid (run_c st hd' n HH.out.2.2.2.2.1 most HH.out.2.2.2.2.2.1 HH.out.2.2.2.2.2.2.1 HH.out.2.2.2.2.2.2.2)
  have K2 := Lib.hid (And.intro hv (And.intro k2 (And.intro ro2 hS2)))
  clear hd hd' hv k2 ro2 hS2
  go_wp2_with fail
  refine HR.out.mono ?_
  rintro e w3 ⟨rfl, S3, L3, h3, k3, ro3, hS3⟩
  obtain ⟨fv3, sv3, vv3, hv3, c0, c1, c2, c3, c4⟩ := h3.take
  obtain ⟨fA3, fn3, fc3, sA3, sn3, sc3, vA3, vn3, vc3, rfl, rfl, rfl⟩ := hv3.forms
  have ht : L3 (.tmp 1) = some (.cl w.heap.size 0 [.slice none 0 0, .slice none 0 0, .bool false, .int .i64 0, .slice none 0 0]) := by
    rw [k3 _ (by simp [Key.own]), upd_other _ _ (by simp), K2.out.2.1 _ (by simp [Key.own]), upd_same]
  have ht' : Go.Sep.del L3 (.cfg u) (.tmp 1) = some (.cl w.heap.size 0 [.slice none 0 0, .slice none 0 0, .bool false, .int .i64 0, .slice none 0 0]) := by rw [del_other _ (by simp)]; exact ht
  have tc := fun j v (hv : ([.slice none 0 0, .slice none 0 0, .bool false, .int .i64 0, .slice none 0 0] : List Value)[j]? = some v) => h3.sep.cell0 ht j v hv
  have t0 := tc 0 _ rfl
  have t1 := tc 1 _ rfl
  have t2 := tc 2 _ rfl
  have t3 := tc 3 _ rfl
  have t4 := tc 4 _ rfl
  have z0 := h3.sep.frozen ht 0
  have z1 := h3.sep.frozen ht 1
  have z2 := h3.sep.frozen ht 2
  have z3 := h3.sep.frozen ht 3
  have z4 := h3.sep.frozen ht 4
  rw [Nat.zero_add] at c1 c2 c3 c4
  have e12 : w.heap.size < w2.heap.size := Nat.lt_of_lt_of_le (by simp) K2.out.2.2.1.1.1
  have hne : w.heap.size ≠ w2.heap.size := by omega
  have keep : ∀ (L4 : Key → Option Ck), (∀ q : Key, q.own ≠ some u → q ≠ .tmp 1 → L4 q = L3 q) → Keep u L (Go.Sep.del L4 (.tmp 1)) := fun L4 hk q hq => by
    by_cases e : q = .tmp 1
    · subst e
      rw [del_same]
      exact HH.out.2.2.1.symm
    · rw [del_other _ e, hk q hq e, k3 q hq, upd_other _ _ (by rintro rfl; exact hq rfl), K2.out.2.1 q hq, upd_other _ _ e]
  have ro13 : Ro S w w3 := (((((Still.refl w).alloc _).ro HH.out.1.sep.lt).trans K2.out.2.2.1 (fun _ h => h)).trans (((Still.refl w2).alloc _).ro K2.out.1.sep.lt) K2.out.2.2.2).trans ro3 K2.out.2.2.2
  have hS13 : ∀ b, S b → S3 b := fun b hb => hS3 b (K2.out.2.2.2 b hb)
  have HK := Lib.hid (And.intro keep (And.intro ro13 (And.intro hS13 (And.intro hv3 ht'))))
  dsimp only [ms] at c2 c3
  clear keep ro13 hS13 hv3 ht ht' tc h3 k3 ro3 hS3 HB HR K2 e12
  generalize w.heap.size = tB at *
  cases hov : (st n).1.ov with
  | true =>
    rw [hov] at c2
    obtain ⟨s5, r5⟩ := HK.out.2.2.2.1.sep.set5 HK.out.2.2.2.2 (.slice fA3 fn3 fc3) (.slice sA3 sn3 sc3) (.bool true) (.int .i64 ((st n).1).er) (.slice vA3 vn3 vc3)
    simp only [Nat.zero_add] at s5 r5
    have e9 := s5.cells (upd_same _ _ _)
    have p0 := e9.cell 0 _ rfl
    have p1 := e9.cell 1 _ rfl
    have p2 := e9.cell 2 _ rfl
    have p3 := e9.cell 3 _ rfl
    have p4 := e9.cell 4 _ rfl
    simp only [Nat.add_zero, Nat.zero_add] at p0 p1 p2 p3 p4
    have hfin : BegR w S L u iB M (endOf (st n).1) (st n).2 (.returned (.agg #[.slice fA3 fn3 fc3, .slice sA3 sn3 sc3, .bool true, .int .i64 ((st n).1).er, .slice vA3 vn3 vc3])) (((((w3.setCell ⟨tB, 0, none⟩ (.slice fA3 fn3 fc3)).setCell ⟨tB, 1, none⟩ (.slice sA3 sn3 sc3)).setCell ⟨tB, 2, none⟩ (.bool true)).setCell ⟨tB, 3, none⟩ (.int .i64 ((st n).1).er)).setCell ⟨tB, 4, none⟩ (.slice vA3 vn3 vc3)) := by
      have e : endOf (st n).1 = (st n).1 := by unfold endOf; rw [hov]; rfl
      rw [e]
      refine ⟨_, _, _, S3, _, by rw [hov], HK.out.2.2.2.1.move (s5.del (.tmp 1)) r5 (fun q hq => by rw [del_other _ (hq 1), upd_other _ _ (hq 1)]), HK.out.1 _ (fun q hq e => by rw [upd_other _ _ e, del_other _ (by rintro rfl; exact hq rfl)]), HK.out.2.1.trans r5 HK.out.2.2.1, HK.out.2.2.1⟩
    have FIN := Lib.hid hfin
    clear hfin e9 s5 r5 HK
    go_wp2_with fail
    clear c0 c1 c2 c3 c4 t0 t1 t2 t3 t4 z0 z1 z2 z3 z4
    generalize (((((w3.setCell ⟨tB, 0, none⟩ (.slice fA3 fn3 fc3)).setCell ⟨tB, 1, none⟩ (.slice sA3 sn3 sc3)).setCell ⟨tB, 2, none⟩ (.bool true)).setCell ⟨tB, 3, none⟩ (.int .i64 ((st n).1).er)).setCell ⟨tB, 4, none⟩ (.slice vA3 vn3 vc3)) = w9 at *
    exact bodyPost_ret (v := .agg #[(.slice fA3 fn3 fc3), (.slice sA3 sn3 sc3), (.bool true), (.int .i64 ((st n).1).er), (.slice vA3 vn3 vc3)]) (by simp [results, Tryz.results31, go_sem, p0, p1, p2, p3, p4]) rfl FIN.out
  | false =>
    rw [hov] at c2
    obtain ⟨s5, r5⟩ := HK.out.2.2.2.1.sep.set5 HK.out.2.2.2.2 (.slice none 0 0) (.slice none 0 0) (.bool true) (.int .i64 8) (.slice none 0 0)
    simp only [Nat.zero_add] at s5 r5
    have e9 := s5.cells (upd_same _ _ _)
    have p0 := e9.cell 0 _ rfl
    have p1 := e9.cell 1 _ rfl
    have p2 := e9.cell 2 _ rfl
    have p3 := e9.cell 3 _ rfl
    have p4 := e9.cell 4 _ rfl
    simp only [Nat.add_zero, Nat.zero_add] at p0 p1 p2 p3 p4
    have hfin : BegR w S L u iB M (endOf (st n).1) (st n).2 (.returned (.agg #[.slice none 0 0, .slice none 0 0, .bool true, .int .i64 8, .slice none 0 0])) (((((w3.setCell ⟨tB, 0, none⟩ (.slice none 0 0)).setCell ⟨tB, 1, none⟩ (.slice none 0 0)).setCell ⟨tB, 2, none⟩ (.bool true)).setCell ⟨tB, 3, none⟩ (.int .i64 8)).setCell ⟨tB, 4, none⟩ (.slice none 0 0)) := by
      have e : endOf (st n).1 = endsC 8 := by unfold endOf; rw [hov]; rfl
      rw [e]
      have h5 := HK.out.2.2.2.1.move (s5.del (.tmp 1)) r5 (fun q hq => by rw [del_other _ (hq 1), upd_other _ _ (hq 1)])
      have z := h5.si.zero
      refine ⟨_, _, _, S3, _, rfl, ⟨z.sep, z.mach, z.cfg, z.frs, z.st, z.va, z.ins, z.wf⟩, ?_, HK.out.2.1.trans r5 HK.out.2.2.1, HK.out.2.2.1⟩
      have k5 := HK.out.1 (upd (Go.Sep.del L3 (.cfg u)) (.tmp 1) (.cl tB 0 [.slice none 0 0, .slice none 0 0, .bool true, .int .i64 8, .slice none 0 0])) (fun q hq e => by rw [upd_other _ _ e, del_other _ (by rintro rfl; exact hq rfl)])
      exact ((k5.upd rfl).upd rfl).upd rfl
    have FIN := Lib.hid hfin
    clear hfin e9 s5 r5 HK
    go_wp2_with fail
    clear c0 c1 c2 c3 c4 t0 t1 t2 t3 t4 z0 z1 z2 z3 z4
    generalize (((((w3.setCell ⟨tB, 0, none⟩ (.slice none 0 0)).setCell ⟨tB, 1, none⟩ (.slice none 0 0)).setCell ⟨tB, 2, none⟩ (.bool true)).setCell ⟨tB, 3, none⟩ (.int .i64 8)).setCell ⟨tB, 4, none⟩ (.slice none 0 0)) = w9 at *
    exact bodyPost_ret (v := .agg #[(.slice none 0 0), (.slice none 0 0), (.bool true), (.int .i64 8), (.slice none 0 0)]) (by simp [results, Tryz.results31, go_sem, p0, p1, p2, p3, p4]) rfl FIN.out
end Go.Proofs.YtjbdldekllffkaaGreatDoor
/- num at the fixed module's instructions. -/
set_option linter.unusedVariables false
namespace Go.Proofs.YtjbdldekllffkaaGreatDoor
open Go.RowKit Go.Sep Go.St
variable {w : World}
theorem is_69 (w : World) : Calls Tryz.prog 121 #[.int .i64 69] w fun e w' => e = .returned (.int .i64 1) ∧ w' = w := by
  go_enter Tryz.func121, Tryz.ntmps121
  go_wp2
  exact bodyPost_ret (v := .int .i64 1) (by simp [results, Tryz.results121, go_sem]) rfl ⟨rfl, rfl⟩
theorem is_106 (w : World) : Calls Tryz.prog 121 #[.int .i64 106] w fun e w' => e = .returned (.int .i64 2) ∧ w' = w := by
  go_enter Tryz.func121, Tryz.ntmps121
  go_wp2
  exact bodyPost_ret (v := .int .i64 2) (by simp [results, Tryz.results121, go_sem]) rfl ⟨rfl, rfl⟩
theorem is_107 (w : World) : Calls Tryz.prog 121 #[.int .i64 107] w fun e w' => e = .returned (.int .i64 2) ∧ w' = w := by
  go_enter Tryz.func121, Tryz.ntmps121
  go_wp2
  exact bodyPost_ret (v := .int .i64 2) (by simp [results, Tryz.results121, go_sem]) rfl ⟨rfl, rfl⟩
theorem flag_c (w : World) (b : Bool) : Calls Tryz.prog 183 #[.bool b] w fun e w' => e = .returned (.int .u64 (if b then 1 else 0)) ∧ w' = w := by
  cases b with
  | true =>
    go_enter Tryz.func183, Tryz.ntmps183
    go_wp2
    exact bodyPost_ret (v := .int .u64 1) (by simp [results, Tryz.results183, go_sem]) rfl ⟨rfl, rfl⟩
  | false =>
    go_enter Tryz.func183, Tryz.ntmps183
    go_wp2
    exact bodyPost_ret (v := .int .u64 0) (by simp [results, Tryz.results183, go_sem]) rfl ⟨rfl, rfl⟩
theorem cut_32 (w : World) (x : Int) (h : 0 ≤ x ∧ x < 18446744073709551616) : Calls Tryz.prog 193 #[.agg #[.int .i64 32], .int .u64 x] w fun e w' => e = .returned (.int .u64 (lowI x)) ∧ Still w w' := by
  have hl := and_low x h.1 h.2
  clear h
  go_enter Tryz.func193, Tryz.ntmps193
  go_wp2
  exact bodyPost_ret (v := .int .u64 (lowI x)) (by simp [results, Tryz.results193, go_sem]) rfl ⟨rfl, (Still.refl w).alloc _⟩
theorem reck_add (w : World) (x y : Int) : Calls Tryz.prog 192 #[.agg #[.int .i64 32], .int .i64 0, .int .u64 x, .int .u64 y] w fun e w' => e = .returned (.tuple #[.int .u64 (IntKind.u64.wrap (x + y)), .int .i64 0]) ∧ Still w w' := by
  go_enter Tryz.func192, Tryz.ntmps192
  go_wp2
  exact bodyPost_ret (v := .tuple #[.int .u64 (IntKind.u64.wrap (x + y)), .int .i64 0]) (by simp [results, Tryz.results192, go_sem]) rfl ⟨rfl, (Still.refl w).alloc _⟩
theorem reck_sub (w : World) (x y : Int) : Calls Tryz.prog 192 #[.agg #[.int .i64 32], .int .i64 1, .int .u64 x, .int .u64 y] w fun e w' => e = .returned (.tuple #[.int .u64 (IntKind.u64.wrap (x - y)), .int .i64 0]) ∧ Still w w' := by
  go_enter Tryz.func192, Tryz.ntmps192
  go_wp2
  exact bodyPost_ret (v := .tuple #[.int .u64 (IntKind.u64.wrap (x - y)), .int .i64 0]) (by simp [results, Tryz.results192, go_sem]) rfl ⟨rfl, (Still.refl w).alloc _⟩
theorem one_69 (w : World) (x : Int) : Calls Tryz.prog 122 #[.int .i64 69, .int .u64 x] w fun e w' => e = .returned (.tuple #[.int .u64 (if lowI x == 0 then 1 else 0), .bool true]) ∧ w' = w := by
  have hl := low_wrap x
  have hf := flag_c w (lowI x == 0)
  generalize (if (lowI x == 0) = true then (1 : Int) else 0) = r at hf ⊢
  have HF := Lib.hid hf
  clear hf
  go_enter Tryz.func122, Tryz.ntmps122
  go_wp2_with fail
  refine HF.out.mono ?_
  rintro e w1 ⟨rfl, rfl⟩
  go_wp2
  exact bodyPost_ret (v := .tuple #[.int .u64 r, .bool true]) (by simp [results, Tryz.results122, go_sem]) rfl ⟨rfl, rfl⟩
theorem low_range (v : Int) : 0 ≤ lowI v ∧ lowI v < 18446744073709551616 := by unfold lowI; omega
theorem wrap64_range (v : Int) : 0 ≤ IntKind.u64.wrap v ∧ IntKind.u64.wrap v < 18446744073709551616 := by simp [IntKind.wrap, IntKind.bits, IntKind.signed]; omega
set_option maxHeartbeats 1000000 in
theorem two_106 (w : World) (x y : Int) (hx : 0 ≤ x ∧ x < 18446744073709551616) (hy : 0 ≤ y ∧ y < 18446744073709551616) : Calls Tryz.prog 123 #[.int .i64 106, .int .u64 x, .int .u64 y] w fun e w' => e = .returned (.tuple #[.int .u64 (lowI (IntKind.u64.wrap (lowI x + lowI y))), .int .i64 0]) ∧ Still w w' := by
  have CA := Lib.hid (fun w => cut_32 w x hx)
  have CB := Lib.hid (fun w => cut_32 w y hy)
  have CC := Lib.hid (fun w => reck_add w (lowI x) (lowI y))
  have CD := Lib.hid (fun w => cut_32 w (IntKind.u64.wrap (lowI x + lowI y)) (wrap64_range _))
  clear hx hy
  go_enter Tryz.func123, Tryz.ntmps123
  go_wp2_with fail
  refine (is_106 _).mono ?_
  rintro e w1 ⟨rfl, rfl⟩
  go_wp2_with fail
  have c8 : (w1.alloc (.cells #[.int .i64 32] 256)).cell? ⟨w1.heap.size, 0, none⟩ = some (.int .i64 32) := by simp
  have Q := Lib.hid ((Still.refl w1).alloc (.cells #[.int .i64 32] 256))
  generalize w1.alloc (.cells #[.int .i64 32] 256) = w2 at *
  generalize w1.heap.size = tB at *
  have KEY := Lib.hid (fun (w' : World) (q : Still w2 w') => (⟨Lib.hid q, q.cell c8⟩ : Hid (Still w2 w') ∧ w'.cell? ⟨tB, 0, none⟩ = some (.int .i64 32)))
  clear c8
  refine wp_region_z (fun w' => Hid (Still w2 w') ∧ w'.cell? ⟨tB, 0, none⟩ = some (.int .i64 32)) (fun j => j == 8 || j == 9 || j == 10 || j == 11 || j == 12 || j == 13) (by kernel_rfl) ?_ (fun hHeld => ?_)
  · first | exact KEY.out _ (hHeld.1.out.trans QB.out) | exact KEY.out _ (hHeld.1.out.trans QA.out) | exact KEY.out _ (Still.refl _).drew
  (refine wpZ_take (i := 0) (oi := ⟨some 59, .load 256 (.tmp 8), 256, _, _, none⟩) (v := ?_) rfl (by kernel_rfl) (fun _ _ _ h => h) (by assumption) (Or.inl ⟨by rfl, ?_⟩) ?_; rotate_left 1; · ((intro w hSw; (try dsimp only at hSw); go_split_ands; go_simp) <;> (try with_reducible rfl)))
  try simp only [Act.put, List.setIfInBounds_toArray, List.set_cons_zero, List.set_cons_succ]
  (refine wpZ_take (i := 1) (oi := ⟨some 60, .move (.tmp 9), 3, _, _, none⟩) (v := ?_) rfl (by kernel_rfl) (fun _ _ _ h => h) (by assumption) (Or.inl ⟨by rfl, ?_⟩) ?_; rotate_left 1; · ((intro w hSw; (try dsimp only at hSw); go_split_ands; go_simp) <;> (try with_reducible rfl)))
  try simp only [Act.put, List.setIfInBounds_toArray, List.set_cons_zero, List.set_cons_succ]
  (refine wpZ_take (i := 2) (oi := ⟨some 61, .load 256 (.tmp 8), 256, _, _, none⟩) (v := ?_) rfl (by kernel_rfl) (fun _ _ _ h => h) (by assumption) (Or.inl ⟨by rfl, ?_⟩) ?_; rotate_left 1; · ((intro w hSw; (try dsimp only at hSw); go_split_ands; go_simp) <;> (try with_reducible rfl)))
  try simp only [Act.put, List.setIfInBounds_toArray, List.set_cons_zero, List.set_cons_succ]
  (refine wpZ_take (i := 3) (oi := ⟨some 62, .move (.tmp 1), 58, _, _, none⟩) (v := ?_) rfl (by kernel_rfl) (fun _ _ _ h => h) (by assumption) (Or.inl ⟨by rfl, ?_⟩) ?_; rotate_left 1; · ((intro w hSw; (try dsimp only at hSw); go_split_ands; go_simp) <;> (try with_reducible rfl)))
  try simp only [Act.put, List.setIfInBounds_toArray, List.set_cons_zero, List.set_cons_succ]
  (refine wpZ_take (i := 5) (oi := ⟨some 64, .load 256 (.tmp 8), 256, _, _, none⟩) (v := ?_) rfl (by kernel_rfl) (fun _ _ _ h => h) (by assumption) (Or.inl ⟨by rfl, ?_⟩) ?_; rotate_left 1; · ((intro w hSw; (try dsimp only at hSw); go_split_ands; go_simp) <;> (try with_reducible rfl)))
  try simp only [Act.put, List.setIfInBounds_toArray, List.set_cons_zero, List.set_cons_succ]
  (refine wpZ_take (i := 6) (oi := ⟨some 65, .move (.tmp 2), 58, _, _, none⟩) (v := ?_) rfl (by kernel_rfl) (fun _ _ _ h => h) (by assumption) (Or.inl ⟨by rfl, ?_⟩) ?_; rotate_left 1; · ((intro w hSw; (try dsimp only at hSw); go_split_ands; go_simp) <;> (try with_reducible rfl)))
  try simp only [Act.put, List.setIfInBounds_toArray, List.set_cons_zero, List.set_cons_succ]
  refine wpZ_one (i := 4) (oi := ⟨some 63, .call { callee := .value (.func 193), args := #[.tmp 61, .tmp 62], argTypes := #[256, 58] }, 58, _, _, none⟩) rfl (by kernel_rfl) (fun K hK => ?_)
  go_simp; refine (CA.out _).mono ?_; rintro e wA ⟨rfl, hq⟩; have QA := Lib.hid hq; clear hq; go_wp2_with fail
  refine hK.out _ _ (fun _ => by (first | exact KEY.out _ (hHeld.1.out.trans QB.out) | exact KEY.out _ (hHeld.1.out.trans QA.out) | exact KEY.out _ (Still.refl _).drew)) (fun hh => ?_)
  have hHeld := hh rfl
  clear hK K
  try simp only [Act.put, List.setIfInBounds_toArray, List.set_cons_zero, List.set_cons_succ]
  refine wpZ_one (i := 7) (oi := ⟨some 66, .call { callee := .value (.func 193), args := #[.tmp 64, .tmp 65], argTypes := #[256, 58] }, 58, _, _, none⟩) rfl (by kernel_rfl) (fun K hK => ?_)
  go_simp; refine (CB.out _).mono ?_; rintro e wB ⟨rfl, hq⟩; have QB := Lib.hid hq; clear hq; go_wp2_with fail
  refine hK.out _ _ (fun _ => by (first | exact KEY.out _ (hHeld.1.out.trans QB.out) | exact KEY.out _ (hHeld.1.out.trans QA.out) | exact KEY.out _ (Still.refl _).drew)) (fun hh => ?_)
  have hHeld := hh rfl
  clear hK K
  try simp only [Act.put, List.setIfInBounds_toArray, List.set_cons_zero, List.set_cons_succ]
  refine wpZ_one (i := 8) (oi := ⟨some 67, .call { callee := .value (.func 192), args := #[.tmp 59, .tmp 60, .tmp 63, .tmp 66], argTypes := #[256, 3, 58, 58] }, 177, _, _, none⟩) rfl (by kernel_rfl) (fun K hK => ?_)
  go_simp; refine (CC.out _).mono ?_; rintro e wC ⟨rfl, hq⟩; have tC := hq.cell hHeld.2; have QC := Lib.hid (hHeld.1.out.trans hq); clear hq hHeld; go_wp2_with fail
  refine hK.out _ _ (fun h => by simp at h) (fun _ => ?_)
  clear hK K
  try simp only [Act.put, List.setIfInBounds_toArray, List.set_cons_zero, List.set_cons_succ]
  refine wpZ_one (i := 9) (oi := ⟨some 58, .move (.tmp 67), 177, _, _, none⟩) rfl (by kernel_rfl) (fun K hK => ?_)
  go_simp
  refine hK.out _ _ (fun h => by simp at h) (fun _ => ?_)
  clear hK K
  try simp only [Act.put, List.setIfInBounds_toArray, List.set_cons_zero, List.set_cons_succ]
  refine wpZ_two (i := 10) (j := 11) (oi := ⟨some 68, .extract (.tmp 58) 0, 58, _, _, none⟩) (oj := ⟨some 69, .extract (.tmp 58) 1, 46, _, _, none⟩) rfl rfl (by kernel_rfl) (fun K hK => ?_) (fun K hK => ?_)
  ·
    go_simp
    refine hK.out _ _ (fun h => by simp at h) (fun _ => ?_)
    clear hK K
    try simp only [Act.put, List.setIfInBounds_toArray, List.set_cons_zero, List.set_cons_succ]
    refine wpZ_two (i := 11) (j := 12) (oi := ⟨some 69, .extract (.tmp 58) 1, 46, _, _, none⟩) (oj := ⟨some 6, .assign (.tmp 68), 58, _, _, none⟩) rfl rfl (by kernel_rfl) (fun K hK => ?_) (fun K hK => ?_)
    ·
      go_simp
      refine hK.out _ _ (fun h => by simp at h) (fun _ => ?_)
      clear hK K
      try simp only [Act.put, List.setIfInBounds_toArray, List.set_cons_zero, List.set_cons_succ]
      refine wpZ_one (i := 12) (oi := ⟨some 6, .assign (.tmp 68), 58, _, _, none⟩) rfl (by kernel_rfl) (fun K hK => ?_)
      go_simp
      refine hK.out _ _ (fun h => by simp at h) (fun _ => ?_)
      clear hK K
      try simp only [Act.put, List.setIfInBounds_toArray, List.set_cons_zero, List.set_cons_succ]
      refine wpZ_one (i := 13) (oi := ⟨some 7, .assign (.tmp 69), 46, _, _, none⟩) rfl (by kernel_rfl) (fun K hK => ?_)
      go_simp
      refine hK.out _ _ (fun h => by simp at h) (fun _ => ?_)
      clear hK K
      try simp only [Act.put, List.setIfInBounds_toArray, List.set_cons_zero, List.set_cons_succ]
      refine wpZ_done (by kernel_rfl) ?_ _
      go_wp2_with fail; refine (CD.out _).mono ?_; rintro e wD ⟨rfl, hq⟩; have QD := Lib.hid (Q.out.trans (QC.out.trans hq)); clear hq; go_wp2; exact bodyPost_ret (v := .tuple #[.int .u64 (lowI (IntKind.u64.wrap (lowI x + lowI y))), .int .i64 0]) (by simp [results, Tryz.results123, go_sem]) rfl ⟨rfl, QD.out⟩
    ·
      go_simp
      refine hK.out _ _ (fun h => by simp at h) (fun _ => ?_)
      clear hK K
      try simp only [Act.put, List.setIfInBounds_toArray, List.set_cons_zero, List.set_cons_succ]
      refine wpZ_one (i := 11) (oi := ⟨some 69, .extract (.tmp 58) 1, 46, _, _, none⟩) rfl (by kernel_rfl) (fun K hK => ?_)
      go_simp
      refine hK.out _ _ (fun h => by simp at h) (fun _ => ?_)
      clear hK K
      try simp only [Act.put, List.setIfInBounds_toArray, List.set_cons_zero, List.set_cons_succ]
      refine wpZ_one (i := 13) (oi := ⟨some 7, .assign (.tmp 69), 46, _, _, none⟩) rfl (by kernel_rfl) (fun K hK => ?_)
      go_simp
      refine hK.out _ _ (fun h => by simp at h) (fun _ => ?_)
      clear hK K
      try simp only [Act.put, List.setIfInBounds_toArray, List.set_cons_zero, List.set_cons_succ]
      refine wpZ_done (by kernel_rfl) ?_ _
      go_wp2_with fail; refine (CD.out _).mono ?_; rintro e wD ⟨rfl, hq⟩; have QD := Lib.hid (Q.out.trans (QC.out.trans hq)); clear hq; go_wp2; exact bodyPost_ret (v := .tuple #[.int .u64 (lowI (IntKind.u64.wrap (lowI x + lowI y))), .int .i64 0]) (by simp [results, Tryz.results123, go_sem]) rfl ⟨rfl, QD.out⟩
  ·
    go_simp
    refine hK.out _ _ (fun h => by simp at h) (fun _ => ?_)
    clear hK K
    try simp only [Act.put, List.setIfInBounds_toArray, List.set_cons_zero, List.set_cons_succ]
    refine wpZ_one (i := 10) (oi := ⟨some 68, .extract (.tmp 58) 0, 58, _, _, none⟩) rfl (by kernel_rfl) (fun K hK => ?_)
    go_simp
    refine hK.out _ _ (fun h => by simp at h) (fun _ => ?_)
    clear hK K
    try simp only [Act.put, List.setIfInBounds_toArray, List.set_cons_zero, List.set_cons_succ]
    refine wpZ_one (i := 12) (oi := ⟨some 6, .assign (.tmp 68), 58, _, _, none⟩) rfl (by kernel_rfl) (fun K hK => ?_)
    go_simp
    refine hK.out _ _ (fun h => by simp at h) (fun _ => ?_)
    clear hK K
    try simp only [Act.put, List.setIfInBounds_toArray, List.set_cons_zero, List.set_cons_succ]
    refine wpZ_one (i := 13) (oi := ⟨some 7, .assign (.tmp 69), 46, _, _, none⟩) rfl (by kernel_rfl) (fun K hK => ?_)
    go_simp
    refine hK.out _ _ (fun h => by simp at h) (fun _ => ?_)
    clear hK K
    try simp only [Act.put, List.setIfInBounds_toArray, List.set_cons_zero, List.set_cons_succ]
    refine wpZ_done (by kernel_rfl) ?_ _
    go_wp2_with fail; refine (CD.out _).mono ?_; rintro e wD ⟨rfl, hq⟩; have QD := Lib.hid (Q.out.trans (QC.out.trans hq)); clear hq; go_wp2; exact bodyPost_ret (v := .tuple #[.int .u64 (lowI (IntKind.u64.wrap (lowI x + lowI y))), .int .i64 0]) (by simp [results, Tryz.results123, go_sem]) rfl ⟨rfl, QD.out⟩
set_option maxHeartbeats 1000000 in
theorem two_107 (w : World) (x y : Int) (hx : 0 ≤ x ∧ x < 18446744073709551616) (hy : 0 ≤ y ∧ y < 18446744073709551616) : Calls Tryz.prog 123 #[.int .i64 107, .int .u64 x, .int .u64 y] w fun e w' => e = .returned (.tuple #[.int .u64 (lowI (IntKind.u64.wrap (lowI x - lowI y))), .int .i64 0]) ∧ Still w w' := by
  have CA := Lib.hid (fun w => cut_32 w x hx)
  have CB := Lib.hid (fun w => cut_32 w y hy)
  have CC := Lib.hid (fun w => reck_sub w (lowI x) (lowI y))
  have CD := Lib.hid (fun w => cut_32 w (IntKind.u64.wrap (lowI x - lowI y)) (wrap64_range _))
  clear hx hy
  go_enter Tryz.func123, Tryz.ntmps123
  go_wp2_with fail
  refine (is_107 _).mono ?_
  rintro e w1 ⟨rfl, rfl⟩
  go_wp2_with fail
  have c8 : (w1.alloc (.cells #[.int .i64 32] 256)).cell? ⟨w1.heap.size, 0, none⟩ = some (.int .i64 32) := by simp
  have Q := Lib.hid ((Still.refl w1).alloc (.cells #[.int .i64 32] 256))
  generalize w1.alloc (.cells #[.int .i64 32] 256) = w2 at *
  generalize w1.heap.size = tB at *
  have KEY := Lib.hid (fun (w' : World) (q : Still w2 w') => (⟨Lib.hid q, q.cell c8⟩ : Hid (Still w2 w') ∧ w'.cell? ⟨tB, 0, none⟩ = some (.int .i64 32)))
  clear c8
  refine wp_region_z (fun w' => Hid (Still w2 w') ∧ w'.cell? ⟨tB, 0, none⟩ = some (.int .i64 32)) (fun j => j == 8 || j == 9 || j == 10 || j == 11 || j == 12 || j == 13) (by kernel_rfl) ?_ (fun hHeld => ?_)
  · first | exact KEY.out _ (hHeld.1.out.trans QB.out) | exact KEY.out _ (hHeld.1.out.trans QA.out) | exact KEY.out _ (Still.refl _).drew
  (refine wpZ_take (i := 0) (oi := ⟨some 59, .load 256 (.tmp 8), 256, _, _, none⟩) (v := ?_) rfl (by kernel_rfl) (fun _ _ _ h => h) (by assumption) (Or.inl ⟨by rfl, ?_⟩) ?_; rotate_left 1; · ((intro w hSw; (try dsimp only at hSw); go_split_ands; go_simp) <;> (try with_reducible rfl)))
  try simp only [Act.put, List.setIfInBounds_toArray, List.set_cons_zero, List.set_cons_succ]
  (refine wpZ_take (i := 1) (oi := ⟨some 60, .move (.tmp 9), 3, _, _, none⟩) (v := ?_) rfl (by kernel_rfl) (fun _ _ _ h => h) (by assumption) (Or.inl ⟨by rfl, ?_⟩) ?_; rotate_left 1; · ((intro w hSw; (try dsimp only at hSw); go_split_ands; go_simp) <;> (try with_reducible rfl)))
  try simp only [Act.put, List.setIfInBounds_toArray, List.set_cons_zero, List.set_cons_succ]
  (refine wpZ_take (i := 2) (oi := ⟨some 61, .load 256 (.tmp 8), 256, _, _, none⟩) (v := ?_) rfl (by kernel_rfl) (fun _ _ _ h => h) (by assumption) (Or.inl ⟨by rfl, ?_⟩) ?_; rotate_left 1; · ((intro w hSw; (try dsimp only at hSw); go_split_ands; go_simp) <;> (try with_reducible rfl)))
  try simp only [Act.put, List.setIfInBounds_toArray, List.set_cons_zero, List.set_cons_succ]
  (refine wpZ_take (i := 3) (oi := ⟨some 62, .move (.tmp 1), 58, _, _, none⟩) (v := ?_) rfl (by kernel_rfl) (fun _ _ _ h => h) (by assumption) (Or.inl ⟨by rfl, ?_⟩) ?_; rotate_left 1; · ((intro w hSw; (try dsimp only at hSw); go_split_ands; go_simp) <;> (try with_reducible rfl)))
  try simp only [Act.put, List.setIfInBounds_toArray, List.set_cons_zero, List.set_cons_succ]
  (refine wpZ_take (i := 5) (oi := ⟨some 64, .load 256 (.tmp 8), 256, _, _, none⟩) (v := ?_) rfl (by kernel_rfl) (fun _ _ _ h => h) (by assumption) (Or.inl ⟨by rfl, ?_⟩) ?_; rotate_left 1; · ((intro w hSw; (try dsimp only at hSw); go_split_ands; go_simp) <;> (try with_reducible rfl)))
  try simp only [Act.put, List.setIfInBounds_toArray, List.set_cons_zero, List.set_cons_succ]
  (refine wpZ_take (i := 6) (oi := ⟨some 65, .move (.tmp 2), 58, _, _, none⟩) (v := ?_) rfl (by kernel_rfl) (fun _ _ _ h => h) (by assumption) (Or.inl ⟨by rfl, ?_⟩) ?_; rotate_left 1; · ((intro w hSw; (try dsimp only at hSw); go_split_ands; go_simp) <;> (try with_reducible rfl)))
  try simp only [Act.put, List.setIfInBounds_toArray, List.set_cons_zero, List.set_cons_succ]
  refine wpZ_one (i := 4) (oi := ⟨some 63, .call { callee := .value (.func 193), args := #[.tmp 61, .tmp 62], argTypes := #[256, 58] }, 58, _, _, none⟩) rfl (by kernel_rfl) (fun K hK => ?_)
  go_simp; refine (CA.out _).mono ?_; rintro e wA ⟨rfl, hq⟩; have QA := Lib.hid hq; clear hq; go_wp2_with fail
  refine hK.out _ _ (fun _ => by (first | exact KEY.out _ (hHeld.1.out.trans QB.out) | exact KEY.out _ (hHeld.1.out.trans QA.out) | exact KEY.out _ (Still.refl _).drew)) (fun hh => ?_)
  have hHeld := hh rfl
  clear hK K
  try simp only [Act.put, List.setIfInBounds_toArray, List.set_cons_zero, List.set_cons_succ]
  refine wpZ_one (i := 7) (oi := ⟨some 66, .call { callee := .value (.func 193), args := #[.tmp 64, .tmp 65], argTypes := #[256, 58] }, 58, _, _, none⟩) rfl (by kernel_rfl) (fun K hK => ?_)
  go_simp; refine (CB.out _).mono ?_; rintro e wB ⟨rfl, hq⟩; have QB := Lib.hid hq; clear hq; go_wp2_with fail
  refine hK.out _ _ (fun _ => by (first | exact KEY.out _ (hHeld.1.out.trans QB.out) | exact KEY.out _ (hHeld.1.out.trans QA.out) | exact KEY.out _ (Still.refl _).drew)) (fun hh => ?_)
  have hHeld := hh rfl
  clear hK K
  try simp only [Act.put, List.setIfInBounds_toArray, List.set_cons_zero, List.set_cons_succ]
  refine wpZ_one (i := 8) (oi := ⟨some 67, .call { callee := .value (.func 192), args := #[.tmp 59, .tmp 60, .tmp 63, .tmp 66], argTypes := #[256, 3, 58, 58] }, 177, _, _, none⟩) rfl (by kernel_rfl) (fun K hK => ?_)
  go_simp; refine (CC.out _).mono ?_; rintro e wC ⟨rfl, hq⟩; have tC := hq.cell hHeld.2; have QC := Lib.hid (hHeld.1.out.trans hq); clear hq hHeld; go_wp2_with fail
  refine hK.out _ _ (fun h => by simp at h) (fun _ => ?_)
  clear hK K
  try simp only [Act.put, List.setIfInBounds_toArray, List.set_cons_zero, List.set_cons_succ]
  refine wpZ_one (i := 9) (oi := ⟨some 58, .move (.tmp 67), 177, _, _, none⟩) rfl (by kernel_rfl) (fun K hK => ?_)
  go_simp
  refine hK.out _ _ (fun h => by simp at h) (fun _ => ?_)
  clear hK K
  try simp only [Act.put, List.setIfInBounds_toArray, List.set_cons_zero, List.set_cons_succ]
  refine wpZ_two (i := 10) (j := 11) (oi := ⟨some 68, .extract (.tmp 58) 0, 58, _, _, none⟩) (oj := ⟨some 69, .extract (.tmp 58) 1, 46, _, _, none⟩) rfl rfl (by kernel_rfl) (fun K hK => ?_) (fun K hK => ?_)
  ·
    go_simp
    refine hK.out _ _ (fun h => by simp at h) (fun _ => ?_)
    clear hK K
    try simp only [Act.put, List.setIfInBounds_toArray, List.set_cons_zero, List.set_cons_succ]
    refine wpZ_two (i := 11) (j := 12) (oi := ⟨some 69, .extract (.tmp 58) 1, 46, _, _, none⟩) (oj := ⟨some 6, .assign (.tmp 68), 58, _, _, none⟩) rfl rfl (by kernel_rfl) (fun K hK => ?_) (fun K hK => ?_)
    ·
      go_simp
      refine hK.out _ _ (fun h => by simp at h) (fun _ => ?_)
      clear hK K
      try simp only [Act.put, List.setIfInBounds_toArray, List.set_cons_zero, List.set_cons_succ]
      refine wpZ_one (i := 12) (oi := ⟨some 6, .assign (.tmp 68), 58, _, _, none⟩) rfl (by kernel_rfl) (fun K hK => ?_)
      go_simp
      refine hK.out _ _ (fun h => by simp at h) (fun _ => ?_)
      clear hK K
      try simp only [Act.put, List.setIfInBounds_toArray, List.set_cons_zero, List.set_cons_succ]
      refine wpZ_one (i := 13) (oi := ⟨some 7, .assign (.tmp 69), 46, _, _, none⟩) rfl (by kernel_rfl) (fun K hK => ?_)
      go_simp
      refine hK.out _ _ (fun h => by simp at h) (fun _ => ?_)
      clear hK K
      try simp only [Act.put, List.setIfInBounds_toArray, List.set_cons_zero, List.set_cons_succ]
      refine wpZ_done (by kernel_rfl) ?_ _
      go_wp2_with fail; refine (CD.out _).mono ?_; rintro e wD ⟨rfl, hq⟩; have QD := Lib.hid (Q.out.trans (QC.out.trans hq)); clear hq; go_wp2; exact bodyPost_ret (v := .tuple #[.int .u64 (lowI (IntKind.u64.wrap (lowI x - lowI y))), .int .i64 0]) (by simp [results, Tryz.results123, go_sem]) rfl ⟨rfl, QD.out⟩
    ·
      go_simp
      refine hK.out _ _ (fun h => by simp at h) (fun _ => ?_)
      clear hK K
      try simp only [Act.put, List.setIfInBounds_toArray, List.set_cons_zero, List.set_cons_succ]
      refine wpZ_one (i := 11) (oi := ⟨some 69, .extract (.tmp 58) 1, 46, _, _, none⟩) rfl (by kernel_rfl) (fun K hK => ?_)
      go_simp
      refine hK.out _ _ (fun h => by simp at h) (fun _ => ?_)
      clear hK K
      try simp only [Act.put, List.setIfInBounds_toArray, List.set_cons_zero, List.set_cons_succ]
      refine wpZ_one (i := 13) (oi := ⟨some 7, .assign (.tmp 69), 46, _, _, none⟩) rfl (by kernel_rfl) (fun K hK => ?_)
      go_simp
      refine hK.out _ _ (fun h => by simp at h) (fun _ => ?_)
      clear hK K
      try simp only [Act.put, List.setIfInBounds_toArray, List.set_cons_zero, List.set_cons_succ]
      refine wpZ_done (by kernel_rfl) ?_ _
      go_wp2_with fail; refine (CD.out _).mono ?_; rintro e wD ⟨rfl, hq⟩; have QD := Lib.hid (Q.out.trans (QC.out.trans hq)); clear hq; go_wp2; exact bodyPost_ret (v := .tuple #[.int .u64 (lowI (IntKind.u64.wrap (lowI x - lowI y))), .int .i64 0]) (by simp [results, Tryz.results123, go_sem]) rfl ⟨rfl, QD.out⟩
  ·
    go_simp
    refine hK.out _ _ (fun h => by simp at h) (fun _ => ?_)
    clear hK K
    try simp only [Act.put, List.setIfInBounds_toArray, List.set_cons_zero, List.set_cons_succ]
    refine wpZ_one (i := 10) (oi := ⟨some 68, .extract (.tmp 58) 0, 58, _, _, none⟩) rfl (by kernel_rfl) (fun K hK => ?_)
    go_simp
    refine hK.out _ _ (fun h => by simp at h) (fun _ => ?_)
    clear hK K
    try simp only [Act.put, List.setIfInBounds_toArray, List.set_cons_zero, List.set_cons_succ]
    refine wpZ_one (i := 12) (oi := ⟨some 6, .assign (.tmp 68), 58, _, _, none⟩) rfl (by kernel_rfl) (fun K hK => ?_)
    go_simp
    refine hK.out _ _ (fun h => by simp at h) (fun _ => ?_)
    clear hK K
    try simp only [Act.put, List.setIfInBounds_toArray, List.set_cons_zero, List.set_cons_succ]
    refine wpZ_one (i := 13) (oi := ⟨some 7, .assign (.tmp 69), 46, _, _, none⟩) rfl (by kernel_rfl) (fun K hK => ?_)
    go_simp
    refine hK.out _ _ (fun h => by simp at h) (fun _ => ?_)
    clear hK K
    try simp only [Act.put, List.setIfInBounds_toArray, List.set_cons_zero, List.set_cons_succ]
    refine wpZ_done (by kernel_rfl) ?_ _
    go_wp2_with fail; refine (CD.out _).mono ?_; rintro e wD ⟨rfl, hq⟩; have QD := Lib.hid (Q.out.trans (QC.out.trans hq)); clear hq; go_wp2; exact bodyPost_ret (v := .tuple #[.int .u64 (lowI (IntKind.u64.wrap (lowI x - lowI y))), .int .i64 0]) (by simp [results, Tryz.results123, go_sem]) rfl ⟨rfl, QD.out⟩
def fn69 : NumFn := ⟨1, fun v => if lowI v == 0 then 1 else 0, fun _ _ => (0, 0)⟩
def fn106 : NumFn := ⟨2, fun v => 0, fun x y => (lowI (IntKind.u64.wrap (lowI x + lowI y)), 0)⟩
def fn107 : NumFn := ⟨2, fun v => 0, fun x y => (lowI (IntKind.u64.wrap (lowI x - lowI y)), 0)⟩
theorem same_still {e : Ending} {w w' : World} {p : Prop} (h : p ∧ w' = w) : p ∧ Still w w' := ⟨h.1, h.2 ▸ Still.refl _⟩
theorem ok69 : NumOk 69 fn69 := ⟨by simp [fn69], fun w => (is_69 w).mono fun e w' h => same_still (e := e) h, fun _ w v _ => (one_69 w v).mono fun e w' h => ⟨⟨_, h.1⟩, h.2 ▸ Still.refl _⟩, fun h => by simp [fn69] at h⟩
theorem ok106 : NumOk 106 fn106 := ⟨by simp [fn106], fun w => (is_106 w).mono fun e w' h => same_still (e := e) h, fun h => by simp [fn106] at h, fun _ w a b h => two_106 w a b h.1 h.2⟩
theorem ok107 : NumOk 107 fn107 := ⟨by simp [fn107], fun w => (is_107 w).mono fun e w' h => same_still (e := e) h, fun h => by simp [fn107] at h, fun _ w a b h => two_107 w a b h.1 h.2⟩
def fn0 : NumFn := ⟨0, fun _ => 0, fun _ _ => (0, 0)⟩
theorem is_0 (w : World) : Calls Tryz.prog 121 #[.int .i64 0] w fun e w' => e = .returned (.int .i64 0) ∧ w' = w := by
  go_enter Tryz.func121, Tryz.ntmps121
  go_wp2
  exact bodyPost_ret (v := .int .i64 0) (by simp [results, Tryz.results121, go_sem]) rfl ⟨rfl, rfl⟩
theorem ok0 : NumOk 0 fn0 := ⟨by simp [fn0], fun w => (is_0 w).mono fun e w' h => same_still (e := e) h, fun h => by simp [fn0] at h, fun h => by simp [fn0] at h⟩
theorem is_1 (w : World) : Calls Tryz.prog 121 #[.int .i64 1] w fun e w' => e = .returned (.int .i64 0) ∧ w' = w := by
  go_enter Tryz.func121, Tryz.ntmps121
  go_wp2
  exact bodyPost_ret (v := .int .i64 0) (by simp [results, Tryz.results121, go_sem]) rfl ⟨rfl, rfl⟩
theorem ok1 : NumOk 1 fn0 := ⟨by simp [fn0], fun w => (is_1 w).mono fun e w' h => same_still (e := e) h, fun h => by simp [fn0] at h, fun h => by simp [fn0] at h⟩
theorem is_2 (w : World) : Calls Tryz.prog 121 #[.int .i64 2] w fun e w' => e = .returned (.int .i64 0) ∧ w' = w := by
  go_enter Tryz.func121, Tryz.ntmps121
  go_wp2
  exact bodyPost_ret (v := .int .i64 0) (by simp [results, Tryz.results121, go_sem]) rfl ⟨rfl, rfl⟩
theorem ok2 : NumOk 2 fn0 := ⟨by simp [fn0], fun w => (is_2 w).mono fun e w' h => same_still (e := e) h, fun h => by simp [fn0] at h, fun h => by simp [fn0] at h⟩
theorem is_3 (w : World) : Calls Tryz.prog 121 #[.int .i64 3] w fun e w' => e = .returned (.int .i64 0) ∧ w' = w := by
  go_enter Tryz.func121, Tryz.ntmps121
  go_wp2
  exact bodyPost_ret (v := .int .i64 0) (by simp [results, Tryz.results121, go_sem]) rfl ⟨rfl, rfl⟩
theorem ok3 : NumOk 3 fn0 := ⟨by simp [fn0], fun w => (is_3 w).mono fun e w' h => same_still (e := e) h, fun h => by simp [fn0] at h, fun h => by simp [fn0] at h⟩
theorem is_4 (w : World) : Calls Tryz.prog 121 #[.int .i64 4] w fun e w' => e = .returned (.int .i64 0) ∧ w' = w := by
  go_enter Tryz.func121, Tryz.ntmps121
  go_wp2
  exact bodyPost_ret (v := .int .i64 0) (by simp [results, Tryz.results121, go_sem]) rfl ⟨rfl, rfl⟩
theorem ok4 : NumOk 4 fn0 := ⟨by simp [fn0], fun w => (is_4 w).mono fun e w' h => same_still (e := e) h, fun h => by simp [fn0] at h, fun h => by simp [fn0] at h⟩
theorem is_5 (w : World) : Calls Tryz.prog 121 #[.int .i64 5] w fun e w' => e = .returned (.int .i64 0) ∧ w' = w := by
  go_enter Tryz.func121, Tryz.ntmps121
  go_wp2
  exact bodyPost_ret (v := .int .i64 0) (by simp [results, Tryz.results121, go_sem]) rfl ⟨rfl, rfl⟩
theorem ok5 : NumOk 5 fn0 := ⟨by simp [fn0], fun w => (is_5 w).mono fun e w' h => same_still (e := e) h, fun h => by simp [fn0] at h, fun h => by simp [fn0] at h⟩
theorem is_11 (w : World) : Calls Tryz.prog 121 #[.int .i64 11] w fun e w' => e = .returned (.int .i64 0) ∧ w' = w := by
  go_enter Tryz.func121, Tryz.ntmps121
  go_wp2
  exact bodyPost_ret (v := .int .i64 0) (by simp [results, Tryz.results121, go_sem]) rfl ⟨rfl, rfl⟩
theorem ok11 : NumOk 11 fn0 := ⟨by simp [fn0], fun w => (is_11 w).mono fun e w' h => same_still (e := e) h, fun h => by simp [fn0] at h, fun h => by simp [fn0] at h⟩
theorem is_12 (w : World) : Calls Tryz.prog 121 #[.int .i64 12] w fun e w' => e = .returned (.int .i64 0) ∧ w' = w := by
  go_enter Tryz.func121, Tryz.ntmps121
  go_wp2
  exact bodyPost_ret (v := .int .i64 0) (by simp [results, Tryz.results121, go_sem]) rfl ⟨rfl, rfl⟩
theorem ok12 : NumOk 12 fn0 := ⟨by simp [fn0], fun w => (is_12 w).mono fun e w' h => same_still (e := e) h, fun h => by simp [fn0] at h, fun h => by simp [fn0] at h⟩
theorem is_13 (w : World) : Calls Tryz.prog 121 #[.int .i64 13] w fun e w' => e = .returned (.int .i64 0) ∧ w' = w := by
  go_enter Tryz.func121, Tryz.ntmps121
  go_wp2
  exact bodyPost_ret (v := .int .i64 0) (by simp [results, Tryz.results121, go_sem]) rfl ⟨rfl, rfl⟩
theorem ok13 : NumOk 13 fn0 := ⟨by simp [fn0], fun w => (is_13 w).mono fun e w' h => same_still (e := e) h, fun h => by simp [fn0] at h, fun h => by simp [fn0] at h⟩
theorem is_14 (w : World) : Calls Tryz.prog 121 #[.int .i64 14] w fun e w' => e = .returned (.int .i64 0) ∧ w' = w := by
  go_enter Tryz.func121, Tryz.ntmps121
  go_wp2
  exact bodyPost_ret (v := .int .i64 0) (by simp [results, Tryz.results121, go_sem]) rfl ⟨rfl, rfl⟩
theorem ok14 : NumOk 14 fn0 := ⟨by simp [fn0], fun w => (is_14 w).mono fun e w' h => same_still (e := e) h, fun h => by simp [fn0] at h, fun h => by simp [fn0] at h⟩
theorem is_15 (w : World) : Calls Tryz.prog 121 #[.int .i64 15] w fun e w' => e = .returned (.int .i64 0) ∧ w' = w := by
  go_enter Tryz.func121, Tryz.ntmps121
  go_wp2
  exact bodyPost_ret (v := .int .i64 0) (by simp [results, Tryz.results121, go_sem]) rfl ⟨rfl, rfl⟩
theorem ok15 : NumOk 15 fn0 := ⟨by simp [fn0], fun w => (is_15 w).mono fun e w' h => same_still (e := e) h, fun h => by simp [fn0] at h, fun h => by simp [fn0] at h⟩
theorem is_16 (w : World) : Calls Tryz.prog 121 #[.int .i64 16] w fun e w' => e = .returned (.int .i64 0) ∧ w' = w := by
  go_enter Tryz.func121, Tryz.ntmps121
  go_wp2
  exact bodyPost_ret (v := .int .i64 0) (by simp [results, Tryz.results121, go_sem]) rfl ⟨rfl, rfl⟩
theorem ok16 : NumOk 16 fn0 := ⟨by simp [fn0], fun w => (is_16 w).mono fun e w' h => same_still (e := e) h, fun h => by simp [fn0] at h, fun h => by simp [fn0] at h⟩
theorem is_26 (w : World) : Calls Tryz.prog 121 #[.int .i64 26] w fun e w' => e = .returned (.int .i64 0) ∧ w' = w := by
  go_enter Tryz.func121, Tryz.ntmps121
  go_wp2
  exact bodyPost_ret (v := .int .i64 0) (by simp [results, Tryz.results121, go_sem]) rfl ⟨rfl, rfl⟩
theorem ok26 : NumOk 26 fn0 := ⟨by simp [fn0], fun w => (is_26 w).mono fun e w' h => same_still (e := e) h, fun h => by simp [fn0] at h, fun h => by simp [fn0] at h⟩
theorem is_32 (w : World) : Calls Tryz.prog 121 #[.int .i64 32] w fun e w' => e = .returned (.int .i64 0) ∧ w' = w := by
  go_enter Tryz.func121, Tryz.ntmps121
  go_wp2
  exact bodyPost_ret (v := .int .i64 0) (by simp [results, Tryz.results121, go_sem]) rfl ⟨rfl, rfl⟩
theorem ok32 : NumOk 32 fn0 := ⟨by simp [fn0], fun w => (is_32 w).mono fun e w' h => same_still (e := e) h, fun h => by simp [fn0] at h, fun h => by simp [fn0] at h⟩
theorem is_33 (w : World) : Calls Tryz.prog 121 #[.int .i64 33] w fun e w' => e = .returned (.int .i64 0) ∧ w' = w := by
  go_enter Tryz.func121, Tryz.ntmps121
  go_wp2
  exact bodyPost_ret (v := .int .i64 0) (by simp [results, Tryz.results121, go_sem]) rfl ⟨rfl, rfl⟩
theorem ok33 : NumOk 33 fn0 := ⟨by simp [fn0], fun w => (is_33 w).mono fun e w' h => same_still (e := e) h, fun h => by simp [fn0] at h, fun h => by simp [fn0] at h⟩
theorem is_34 (w : World) : Calls Tryz.prog 121 #[.int .i64 34] w fun e w' => e = .returned (.int .i64 0) ∧ w' = w := by
  go_enter Tryz.func121, Tryz.ntmps121
  go_wp2
  exact bodyPost_ret (v := .int .i64 0) (by simp [results, Tryz.results121, go_sem]) rfl ⟨rfl, rfl⟩
theorem ok34 : NumOk 34 fn0 := ⟨by simp [fn0], fun w => (is_34 w).mono fun e w' h => same_still (e := e) h, fun h => by simp [fn0] at h, fun h => by simp [fn0] at h⟩
theorem is_35 (w : World) : Calls Tryz.prog 121 #[.int .i64 35] w fun e w' => e = .returned (.int .i64 0) ∧ w' = w := by
  go_enter Tryz.func121, Tryz.ntmps121
  go_wp2
  exact bodyPost_ret (v := .int .i64 0) (by simp [results, Tryz.results121, go_sem]) rfl ⟨rfl, rfl⟩
theorem ok35 : NumOk 35 fn0 := ⟨by simp [fn0], fun w => (is_35 w).mono fun e w' h => same_still (e := e) h, fun h => by simp [fn0] at h, fun h => by simp [fn0] at h⟩
theorem is_36 (w : World) : Calls Tryz.prog 121 #[.int .i64 36] w fun e w' => e = .returned (.int .i64 0) ∧ w' = w := by
  go_enter Tryz.func121, Tryz.ntmps121
  go_wp2
  exact bodyPost_ret (v := .int .i64 0) (by simp [results, Tryz.results121, go_sem]) rfl ⟨rfl, rfl⟩
theorem ok36 : NumOk 36 fn0 := ⟨by simp [fn0], fun w => (is_36 w).mono fun e w' h => same_still (e := e) h, fun h => by simp [fn0] at h, fun h => by simp [fn0] at h⟩
theorem is_65 (w : World) : Calls Tryz.prog 121 #[.int .i64 65] w fun e w' => e = .returned (.int .i64 0) ∧ w' = w := by
  go_enter Tryz.func121, Tryz.ntmps121
  go_wp2
  exact bodyPost_ret (v := .int .i64 0) (by simp [results, Tryz.results121, go_sem]) rfl ⟨rfl, rfl⟩
theorem ok65 : NumOk 65 fn0 := ⟨by simp [fn0], fun w => (is_65 w).mono fun e w' h => same_still (e := e) h, fun h => by simp [fn0] at h, fun h => by simp [fn0] at h⟩
theorem is_66 (w : World) : Calls Tryz.prog 121 #[.int .i64 66] w fun e w' => e = .returned (.int .i64 0) ∧ w' = w := by
  go_enter Tryz.func121, Tryz.ntmps121
  go_wp2
  exact bodyPost_ret (v := .int .i64 0) (by simp [results, Tryz.results121, go_sem]) rfl ⟨rfl, rfl⟩
theorem ok66 : NumOk 66 fn0 := ⟨by simp [fn0], fun w => (is_66 w).mono fun e w' h => same_still (e := e) h, fun h => by simp [fn0] at h, fun h => by simp [fn0] at h⟩
theorem is_208 (w : World) : Calls Tryz.prog 121 #[.int .i64 208] w fun e w' => e = .returned (.int .i64 0) ∧ w' = w := by
  go_enter Tryz.func121, Tryz.ntmps121
  go_wp2
  exact bodyPost_ret (v := .int .i64 0) (by simp [results, Tryz.results121, go_sem]) rfl ⟨rfl, rfl⟩
theorem ok208 : NumOk 208 fn0 := ⟨by simp [fn0], fun w => (is_208 w).mono fun e w' h => same_still (e := e) h, fun h => by simp [fn0] at h, fun h => by simp [fn0] at h⟩
theorem is_210 (w : World) : Calls Tryz.prog 121 #[.int .i64 210] w fun e w' => e = .returned (.int .i64 0) ∧ w' = w := by
  go_enter Tryz.func121, Tryz.ntmps121
  go_wp2
  exact bodyPost_ret (v := .int .i64 0) (by simp [results, Tryz.results121, go_sem]) rfl ⟨rfl, rfl⟩
theorem ok210 : NumOk 210 fn0 := ⟨by simp [fn0], fun w => (is_210 w).mono fun e w' h => same_still (e := e) h, fun h => by simp [fn0] at h, fun h => by simp [fn0] at h⟩
/-- What num does with the instructions that the fixed module has. -/
def fnOf (op : Int) : NumFn := if op = 69 then fn69 else if op = 106 then fn106 else if op = 107 then fn107 else fn0
def fixedOps : List Int := [69, 106, 107, 0, 1, 2, 3, 4, 5, 11, 12, 13, 14, 15, 16, 26, 32, 33, 34, 35, 36, 65, 66, 208, 210]
theorem okOf (op : Int) (h : op ∈ fixedOps) : NumOk op (fnOf op) := by
  simp only [fixedOps, List.mem_cons, List.not_mem_nil, or_false] at h
  rcases h with rfl | rfl | rfl | rfl | rfl | rfl | rfl | rfl | rfl | rfl | rfl | rfl | rfl | rfl | rfl | rfl | rfl | rfl | rfl | rfl | rfl | rfl | rfl | rfl | rfl
  · exact ok69
  · exact ok106
  · exact ok107
  · exact ok0
  · exact ok1
  · exact ok2
  · exact ok3
  · exact ok4
  · exact ok5
  · exact ok11
  · exact ok12
  · exact ok13
  · exact ok14
  · exact ok15
  · exact ok16
  · exact ok26
  · exact ok32
  · exact ok33
  · exact ok34
  · exact ok35
  · exact ok36
  · exact ok65
  · exact ok66
  · exact ok208
  · exact ok210
end Go.Proofs.YtjbdldekllffkaaGreatDoor
