/- Lemmas of the walk, part 8. -/
import Derived.Test.YtmnebeikafigjaaGreatDoorJ7
import Derived.Carry
import Derived.LoopTactic
import Derived.Laws.MakeOwn
import Derived.Test.YtmnebeikafigjaaGreatDoorJ2
import Derived.Test.YtmnebeikafigjaaGreatDoorJ6
/- ctrl's walk and Blocks. -/
set_option linter.unusedVariables false
set_option linter.unusedSimpArgs false
namespace Go.Proofs.YtmnebeikafigjaaGreatDoor
open Go.RowKit Go.Sep Go.St
variable {W w : World} {b mr : Nat} {lv sv : Value} {st : List Int} {es : Es} {dp : Int}
def endsN (l : List Ins) (n : Nat) : Nat := ((l.take n).filter fun x => decide (x.op = 11)).length
structure WalkOk (l : List Ins) (es : Es) : Prop where
  run : runE l l.length = some ([], es)
  ne : 0 < l.length
  last : opA l ((l.length - 1 : Nat) : Int) = 11
  ends : endsN l l.length = es.length + 1
theorem runE_some {l : List Ins} {s : List Int × Es} : ∀ (n d : Nat), runE l (n + d) = some s → ∃ s0, runE l n = some s0
  | n, 0, h => ⟨s, h⟩
  | n, d + 1, h => by
    rw [← Nat.add_assoc] at h
    unfold runE at h
    cases hr : runE l (n + d) with
    | none => rw [hr] at h; cases h
    | some s1 => exact runE_some n d hr
theorem WalkOk.at_ {l : List Ins} {es : Es} (h : WalkOk l es) (n : Nat) (hn : n ≤ l.length) : ∃ s, runE l n = some s := by
  have := h.run
  rw [show l.length = n + (l.length - n) by omega] at this
  exact runE_some n _ this
theorem WalkOk.step {l : List Ins} {es : Es} (h : WalkOk l es) (n : Nat) (hn : n < l.length) (s : List Int × Es) (hs : runE l n = some s) : ∃ s', runE l (n + 1) = some s' ∧ stepE l n s = some s' := by
  obtain ⟨s', h'⟩ := h.at_ (n + 1) hn
  refine ⟨s', h', ?_⟩
  unfold runE at h'
  rwa [hs] at h'
theorem endsN_succ (l : List Ins) (n : Nat) (x : Ins) (hx : l[n]? = some x) : endsN l (n + 1) = endsN l n + if x.op = 11 then 1 else 0 := by
  unfold endsN
  rw [List.take_add_one, hx]
  simp only [Option.toList_some, List.filter_append, List.length_append]
  by_cases h : x.op = 11 <;> simp [h]
theorem endsN_le (l : List Ins) (n : Nat) : endsN l n ≤ n := by
  unfold endsN
  exact Nat.le_trans (List.length_filter_le _ _) (by simp; omega)
theorem linv_of {W : World} {lv : Value} {l : List Ins} {n : Nat} {s : List Int × Es} (hrd : RdL W (fun b => b < W.heap.size) 6 (InsR W (fun b => b < W.heap.size)) lv l) (hl : l.length ≤ 100000) (hn : n ≤ l.length) (hs : runE l n = some s) : LInv W lv l s.1 s.2 := by
  obtain ⟨a, b, c⟩ := runE_inv l n s hs
  exact ⟨hrd, fun k hk => ⟨(a k hk).1, by have := (a k hk).2; omega⟩, by omega, by omega, hl⟩
theorem wk_start (W : World) (lv : Value) : Wk W ((W.alloc (.map #[] 0)).alloc (.cells #[.slice none 0 0, lv, .map (some W.heap.size), .int .i64 0] 281)) (W.heap.size + 1) W.heap.size lv (.slice none 0 0) [] [] 0 :=
  ⟨((Below.refl _ _).alloc (Nat.le_refl _) _).alloc (by simp) _, by have := (Go.MapKept.heap_alloc (W.alloc (.map #[] 0)) (.cells #[.slice none 0 0, lv, .map (some W.heap.size), .int .i64 0] 281)).1; rwa [show (W.alloc (.map #[] 0)).heap.size = W.heap.size + 1 by simp] at this, row_nil _ _ _ _, (MapF.made W).move (heap_alloc_old _ _ (by simp)), by omega, Nat.le_refl _, fun k hk => absurd (show none = some k from hk) (fun h => nomatch h), by omega⟩
set_option maxRecDepth 100000 in
set_option maxHeartbeats 4000000 in
theorem cwalk_c (l : List Ins) (es : Es) (W : World) (lv : Value) (hrd : RdL W (fun b => b < W.heap.size) 6 (InsR W (fun b => b < W.heap.size)) lv l) (hl : l.length ≤ 100000) (ho : WalkOk l es) :
    Calls Tryz.prog 208 #[lv] W fun e w' => ∃ b mr sv dp, e = .returned (.tuple #[.pointer (some ⟨b, 0, none⟩), .bool true]) ∧ Wk W w' b mr lv sv [] es dp := by
  obtain ⟨A, c, rfl, _, _, _, _⟩ := id hrd
  have HW := Lib.hid (wk_start W (.slice A l.length c))
  have HR := Lib.hid (And.intro hrd (And.intro hl ho))
  have mk := fun w => run_makeMap (P := Tryz.prog) 147 w
  have q1 : IntKind.i64.wrap ((l.length : Int) - 1) = ((l.length - 1 : Nat) : Int) := by rw [IntWalk.i64_in _ (by omega)]; have := ho.ne; omega
  have d1 : ((l.length : Int) == 0) = false := beq_eq_false_iff_ne.2 (by have := ho.ne; omega)
  have d1' : (l.length == 0) = false := beq_eq_false_iff_ne.2 (by have := ho.ne; omega)
  clear hrd hl ho
  rename_i x1 x2 x3 x4
  clear x1 x2 x3 x4
  go_enter Tryz.func208, Tryz.ntmps208
  go_wp2_with fail
  generalize W.heap.size + 1 = b at *
  generalize hmr : W.heap.size = mr at HW ⊢
  go_loopw [15] (fun i wr => ∃ n : Nat, n ≤ l.length ∧ i = .int .i64 n ∧ ∃ s sv dp, runE l n = some s ∧ Wk W wr b mr (.slice A l.length c) sv s.1 s.2 dp ∧ (-1000000 ≤ dp ∧ dp ≤ 1000000)) (fun i _ => l.length - (intOf i).toNat)
  case atStart => exact ⟨0, Nat.zero_le _, rfl, ([], []), _, 0, rfl, HW.out, by omega, by omega⟩
  case round =>
    obtain ⟨n, hn, rfl, s, sv, dp, hrs, h, hdp⟩ := hrel
    by_cases hlt : n < l.length
    · obtain ⟨s', hs', hst⟩ := HR.out.2.2.step n hlt s hrs
      have HO := Lib.hid (cone_c l n hlt s' h (linv_of HR.out.1 HR.out.2.1 (by omega) hrs) hst (runE_inv l n s hrs).2 hdp)
      have HS := Lib.hid hs'
      have hi : IntKind.i64.wrap ((n : Int) + 1) = (n : Int) + 1 := IntWalk.i64_in _ (by have := HR.out.2.1; omega)
      have i1 : decide ((n : Int) < (l.length : Int)) = true := decide_eq_true (by omega)
      clear hs' hst hrs h hdp hn
      go_wp2_with fail
      refine HO.out.mono ?_
      rintro e w2 ⟨rfl, sv2, dp2, hd2, h2⟩
      have H2 := Lib.hid (And.intro hd2 h2)
      clear hd2 h2
      go_wp2
      go_roundw
      case rel => exact ⟨n + 1, hlt, by go_num, s', sv2, dp2, HS.out, H2.out.2, H2.out.1⟩
      case measure => (simp [intOf]; try omega)
    · obtain rfl : n = l.length := by omega
      have hd0 : decide ((l.length : Int) < (l.length : Int)) = false := decide_eq_false (by omega)
      rw [HR.out.2.2.run] at hrs
      cases hrs
      have H := Lib.hid (And.intro h hdp)
      have c0 := h.c0
      obtain ⟨A1, m1, k1, rfl, _, _, hx, _⟩ := h.row.rd
      have hm1 : m1 = 0 := by rw [ints_len] at hx; simp at hx; omega
      subst hm1
      obtain ⟨g, o, c', e, _, cop⟩ := ins_cell (linv_of HR.out.1 HR.out.2.1 (Nat.le_refl _) HR.out.2.2.run) h.bel ((l.length - 1 : Nat) : Int) (by omega) (by have := HR.out.2.2.ne; omega)
      rw [HR.out.2.2.last, Int.toNat_natCast] at cop
      cases e
      have hle : l.length - 1 < l.length := by have := HR.out.2.2.ne; omega
      have i2 : ((l.length - 1 : Nat) : Int) < (l.length : Int) := by omega
      clear h hdp hlt hx hn
      go_wp2_with fail
      generalize hW : HR.out.1 = hrd at *
      clear hW hrd cop c0 hle i2 d1 d1' q1
      clear HW
      go_loopw [6, 46] (fun k i wr => ∃ n : Nat, n ≤ l.length ∧ i = .int .i64 n ∧ k = .int .i64 (endsN l n : Nat) ∧ Wk W wr b mr (.slice (some ⟨g, o, none⟩) l.length c) (.slice A1 0 k1) [] es dp) (fun _ i _ => l.length - (intOf i).toNat)
      case atStart => exact ⟨0, Nat.zero_le _, rfl, rfl, H.out.1⟩
      case round =>
        obtain ⟨n, hn, rfl, rfl, h⟩ := hrel
        by_cases hlt : n < l.length
        · have hx : l[n]? = some l[n] := List.getElem?_eq_getElem hlt
          have hsu := endsN_succ l n _ hx
          have hle := endsN_le l n
          generalize l[n] = x at hx hsu
          obtain ⟨A9, c9, e9, _, _, h9, _⟩ := HR.out.1
          cases e9
          obtain ⟨g9, o9, e9, hg9, hc9⟩ := h9 (by omega)
          cases e9
          obtain ⟨cs, g1, ⟨lx, rfl, ⟨Al, cl, rfl, _, _, _, _⟩⟩, g3⟩ := hc9 n x hx
          have x0 := (h.bel.cell (p := ⟨g, o + n * 6 + 0, none⟩) hg9).trans (g3 0 _ rfl)
          have x1 := (h.bel.cell (p := ⟨g, o + n * 6 + 1, none⟩) hg9).trans (g3 1 _ rfl)
          have x2 := (h.bel.cell (p := ⟨g, o + n * 6 + 2, none⟩) hg9).trans (g3 2 _ rfl)
          have x3 := (h.bel.cell (p := ⟨g, o + n * 6 + 3, none⟩) hg9).trans (g3 3 _ rfl)
          have x4 := (h.bel.cell (p := ⟨g, o + n * 6 + 4, none⟩) hg9).trans (g3 4 _ rfl)
          have x5 := (h.bel.cell (p := ⟨g, o + n * 6 + 5, none⟩) hg9).trans (g3 5 _ rfl)
          rw [Nat.add_zero] at x0
          have hi : IntKind.i64.wrap ((n : Int) + 1) = (n : Int) + 1 := IntWalk.i64_in _ (by have := HR.out.2.1; omega)
          have hi2 : IntKind.i64.wrap ((endsN l n : Nat) + 1) = ((endsN l n + 1 : Nat) : Int) := by rw [IntWalk.i64_in _ (by have := HR.out.2.1; omega)]; omega
          have i1 : decide ((n : Int) < (l.length : Int)) = true := decide_eq_true (by omega)
          have H3 := Lib.hid (h.still ((Below.refl wr.heap.size wr).alloc (Nat.le_refl _) (.cells #[.int .i64 x.op, .int .u32 x.a, .int .u32 x.b, .int .u64 x.n, .slice Al x.l.length cl, .int .i64 x.t] 29)))
          clear h hg9 hc9 g1 g3 h9 hn hle hx
          by_cases h11 : x.op = 11
          · have HS := Lib.hid hsu
            have e11 : (x.op == 11) = true := by rw [h11]; rfl
            have HX := Lib.hid h11
            clear hsu h11
            go_wp2
            go_roundw
            case rel => exact ⟨n + 1, hlt, by go_num, by have := HS.out; rw [if_pos HX.out] at this; rw [this]; exact congrArg (Value.int .i64) (by omega), H3.out⟩
            case measure => (simp [intOf]; try omega)
          · have HS := Lib.hid hsu
            have e11 : (x.op == 11) = false := beq_eq_false_iff_ne.2 h11
            have HX := Lib.hid h11
            clear hsu h11
            go_wp2
            go_roundw
            case rel => exact ⟨n + 1, hlt, by go_num, by have := HS.out; rw [if_neg HX.out] at this; rw [this]; rfl, H3.out⟩
            case measure => (simp [intOf]; try omega)
        · obtain rfl : n = l.length := by omega
          rw [HR.out.2.2.ends]
          have c2 := h.c2
          have hes : es.length ≤ l.length := (runE_inv l l.length _ HR.out.2.2.run).2.2
          have q3 : IntKind.i64.wrap ((es.length : Int) + 1) = ((es.length + 1 : Nat) : Int) := by rw [IntWalk.i64_in _ (by have := HR.out.2.1; omega)]; omega
          have hm := h.map
          obtain ⟨D, ho, _, hsz, _⟩ := hm
          have HO := Lib.hid ho
          have H4 := Lib.hid h
          have HZ := Lib.hid hsz
          clear h ho hsz hlt hn hes
          rename_i hTidy hAll
          clear hTidy hAll
          go_wp2_with (at_len; refine wpList_len_own _ (by rfl) _ 147 (by rfl) 3 205 Tryz.underlying147 rdB mr es.length D (by rfl) HO.out ?_; rw [HZ.out])
          go_ret2
          exact ⟨b, mr, _, dp, rfl, H4.out⟩
/-- ctrl.Blocks, of a list in which all stands where it may. -/
theorem blocks_c (l : List Ins) (es : Es) (W : World) (lv : Value) (hrd : RdL W (fun b => b < W.heap.size) 6 (InsR W (fun b => b < W.heap.size)) lv l) (hl : l.length ≤ 100000) (ho : WalkOk l es) :
    Calls Tryz.prog 177 #[lv] W fun e w' => ∃ mr, e = .returned (.tuple #[.map (some mr), .bool true]) ∧ Below W.heap.size W w' ∧ W.heap.size ≤ mr ∧ MapF w' mr es := by
  obtain ⟨A, c, rfl, _, _, _, _⟩ := id hrd
  have HC := Lib.hid (cwalk_c l es W _ hrd hl ho)
  clear hrd hl ho
  rename_i x1 x2 x3 x4
  clear x1 x2 x3 x4
  go_enter Tryz.func177, Tryz.ntmps177
  go_wp2_with fail
  refine HC.out.mono ?_
  rintro e w1 ⟨b, mr, sv, dp, rfl, h⟩
  have c2 := h.c2
  have H := Lib.hid h
  clear h
  go_wp2
  go_ret2
  exact ⟨mr, rfl, H.out.bel, H.out.hm, H.out.map⟩
end Go.Proofs.YtmnebeikafigjaaGreatDoor
/- inst.Value; rows that are made. -/
set_option linter.unusedVariables false
set_option linter.unusedSimpArgs false
namespace Go.Proofs.YtmnebeikafigjaaGreatDoor
open Go.RowKit Go.Sep Go.St
def valueC (l : List Ins) : Int := match l with
  | [] => 0
  | x :: _ => if x.op = 65 ∨ x.op = 66 then x.n else if x.op = 210 then x.a + 1 else 0
/-- The six cells of an instruction. -/
theorem ins_six {w : World} {S : Nat → Prop} {A : Option Addr} {n c : Nat} {l : List Ins} (h : RdL w S 6 (InsR w S) (.slice A n c) l) (k : Nat) (x : Ins) (hx : l[k]? = some x) :
    ∃ g o Al cl, A = some ⟨g, o, none⟩ ∧ S g ∧ n = l.length ∧ w.cell? ⟨g, o + k * 6, none⟩ = some (.int .i64 x.op) ∧ w.cell? ⟨g, o + k * 6 + 1, none⟩ = some (.int .u32 x.a) ∧ w.cell? ⟨g, o + k * 6 + 2, none⟩ = some (.int .u32 x.b) ∧
      w.cell? ⟨g, o + k * 6 + 3, none⟩ = some (.int .u64 x.n) ∧ w.cell? ⟨g, o + k * 6 + 4, none⟩ = some (.slice Al x.l.length cl) ∧ w.cell? ⟨g, o + k * 6 + 5, none⟩ = some (.int .i64 x.t) ∧ RdL w S 1 (num1 .u32) (.slice Al x.l.length cl) x.l := by
  obtain ⟨A', c', e, h1, h2, h3, _⟩ := id h
  obtain ⟨g, o, cs, rfl, hS, g1, ⟨lv, rfl, hl⟩, g3⟩ := h.get k x hx
  have hl2 := hl
  obtain ⟨Al, cl, rfl, _, _, _, _⟩ := hl2
  cases e
  exact ⟨g, o, Al, cl, rfl, hS, rfl, g3 0 _ rfl, g3 1 _ rfl, g3 2 _ rfl, g3 3 _ rfl, g3 4 _ rfl, g3 5 _ rfl, hl⟩
set_option maxHeartbeats 2000000 in
theorem value_c (w : World) (S : Nat → Prop) (lv : Value) (l : List Ins) (h : RdL w S 6 (InsR w S) lv l) (hw : ∀ x ∈ l, Ins.wf x) :
    Calls Tryz.prog 112 #[lv] w fun e w' => e = .returned (.int .u64 (valueC l)) ∧ Below w.heap.size w w' := by
  obtain ⟨A, c, rfl, h1, h2, h3, hA⟩ := id h
  cases l with
  | nil =>
    clear h h1 h2 h3 hA hw
    go_enter Tryz.func112, Tryz.ntmps112
    go_wp2
    go_ret
    exact ⟨rfl, Below.refl _ _⟩
  | cons x r =>
    obtain ⟨g, o, Al, cl, rfl, _, _, x0, x1, x2, x3, x4, x5, _⟩ := ins_six h 0 x rfl
    rw [Nat.zero_mul, Nat.add_zero] at x0 x1 x2 x3 x4 x5
    have d0 : (((x :: r).length : Int) == 0) = false := beq_eq_false_iff_ne.2 (by simp; omega)
    have d1 : ((x :: r).length == 0) = false := beq_eq_false_iff_ne.2 (by simp)
    have d2 : (0 : Int) < ((x :: r).length : Int) := by simp
    have d3 : 0 < (x :: r).length := by simp
    have hwx := hw x (by simp)
    have q1 : IntKind.u64.wrap x.a = x.a := IntWalk.u64_in _ (by have := hwx.a; omega)
    have q2 : IntKind.u64.wrap (x.a + 1) = x.a + 1 := IntWalk.u64_in _ (by have := hwx.a; omega)
    have HB := Lib.hid ((Below.refl w.heap.size w).alloc (Nat.le_refl _) (.cells #[.int .i64 x.op, .int .u32 x.a, .int .u32 x.b, .int .u64 x.n, .slice Al x.l.length cl, .int .i64 x.t] 29))
    unfold valueC
    simp only
    clear h h1 h2 h3 hA hw hwx
    generalize (x :: r).length = n at *
    by_cases e65 : x.op = 65
    · rw [if_pos (.inl e65)]
      have t1 : (x.op == 65) = true := by rw [e65]; rfl
      clear e65
      go_enter Tryz.func112, Tryz.ntmps112
      go_wp2
      go_ret
      exact ⟨rfl, HB.out⟩
    · have t1 : (x.op == 65) = false := beq_eq_false_iff_ne.2 e65
      by_cases e66 : x.op = 66
      · rw [if_pos (.inr e66)]
        have t2 : (x.op == 66) = true := by rw [e66]; rfl
        clear e65 e66
        go_enter Tryz.func112, Tryz.ntmps112
        go_wp2
        go_ret
        exact ⟨rfl, HB.out⟩
      · have t2 : (x.op == 66) = false := beq_eq_false_iff_ne.2 e66
        rw [if_neg (by rintro (h | h); exact e65 h; exact e66 h)]
        by_cases e210 : x.op = 210
        · rw [if_pos e210]
          have t3 : (x.op == 210) = true := by rw [e210]; rfl
          clear e65 e66 e210
          go_enter Tryz.func112, Tryz.ntmps112
          go_wp2
          go_ret
          exact ⟨rfl, HB.out⟩
        · rw [if_neg e210]
          have t3 : (x.op == 210) = false := beq_eq_false_iff_ne.2 e210
          clear e65 e66 e210
          go_enter Tryz.func112, Tryz.ntmps112
          go_wp2
          go_ret
          exact ⟨rfl, HB.out⟩
theorem made_one (z : Value) (n : Nat) (hz : z.cells = #[z]) : madeCells z.cells (n * 1) = Array.replicate n z := by
  rw [hz]
  apply Array.ext
  · simp [madeCells]
  · intro i h1 h2
    simp [madeCells, Nat.mod_one]
theorem run_mk (w : World) (t e : TypeId) (z : Value) (bytes : Nat) (ht : Tryz.prog.underlying t = some (.slice e)) (hinfo : (Tryz.prog.info? e).map (fun i => (i.zero, i.size, i.bytes)) = some (some z, 1, bytes)) (hz : z.cells = #[z]) (hb : bytes ≤ 8) (n : Nat) (hn : n ≤ 1000000) :
    ∀ (kl kc : IntKind), (Instr.makeSlice t (.int kl (n : Int)) (.int kc (n : Int))).run Tryz.prog w = .ok (.slice (some ⟨w.heap.size, 0, none⟩) n n) (w.alloc (.cells (Array.replicate n z) e)) := by
  intro kl kc
  obtain ⟨i, hi, hzz, hsize, hby⟩ : ∃ i, Tryz.prog.info? e = some i ∧ i.zero = some z ∧ i.size = 1 ∧ i.bytes = bytes := by
    cases hi : Tryz.prog.info? e with
    | none => rw [hi] at hinfo; cases hinfo
    | some i =>
      rw [hi] at hinfo
      injection hinfo with hinfo
      injection hinfo with e1 e2
      injection e2 with e2 e3
      exact ⟨i, rfl, e1, e2, e3⟩
  have hbn : (i.bytes : Int) * (n : Int) ≤ 281474976710656 := by
    have h : i.bytes * n ≤ 8 * 1000000 := Nat.mul_le_mul (by omega) hn
    have : ((i.bytes * n : Nat) : Int) = (i.bytes : Int) * (n : Int) := by simp
    omega
  have := run_make (P := Tryz.prog) w t e i z ht hi hzz kl kc n n (by omega) (Int.le_refl _) hbn (by omega)
  rw [Int.toNat_natCast, hsize, made_one z n hz] at this
  exact this
end Go.Proofs.YtmnebeikafigjaaGreatDoor
/- inst's maker while it makes. -/
set_option linter.unusedVariables false
set_option linter.unusedSimpArgs false
namespace Go.Proofs.YtmnebeikafigjaaGreatDoor
open Go.RowKit Go.Sep Go.St
def esF (es : Es) : Int → Option (Int × Int) := getE es
/-- The maker: the instance it makes, and its error. -/
structure Mkr (w : World) (S : Nat → Prop) (L : Key → Option Ck) (u iB : Nat) (M : Mo) (mc : List Value) (bv mv tv gv ev dv : Value) (er : List Value) (bl : List Es) (I : In) : Prop where
  sep : Sep w S L
  mach : L .mach = none
  cfg : L (.cfg u) = none
  ins : L (.ins u) = some (.cl iB 0 (mc ++ (bv :: mv :: tv :: gv :: ev :: dv :: er)))
  mod : ModR w S M mc
  bls : ∃ raws : List Value, L (.tmp 3) = some (.rw 147 1 bv raws) ∧ raws.length = bl.length ∧ ∀ (k : Nat) r es, raws[k]? = some r → bl[k]? = some es → ∃ b, r = .map (some b) ∧ S b ∧ MapF w b es
  mem : L (.mem u) = some (.rw 5 1 mv (ints .u8 I.mem))
  tabs : TabsAt L u tv I.tabs
  glo : L (.glo u) = some (.rw 26 1 gv (ints .u64 I.glo))
  els : L (.els u) = some (.rw 4 1 ev (bools I.els))
  das : L (.das u) = some (.rw 4 1 dv (bools I.das))
  wf : Wf M
section
variable {w : World} {S : Nat → Prop} {L : Key → Option Ck} {u iB : Nat} {M : Mo} {mc : List Value} {bv mv tv gv ev dv : Value} {er : List Value} {bl : List Es} {I : In}
/-- All that the maker has is as it was, or its cells are others. -/
theorem Mkr.move {w1 : World} {S1 : Nat → Prop} {L1 : Key → Option Ck} (h : Mkr w S L u iB M mc bv mv tv gv ev dv er bl I) (s1 : Sep w1 S1 L1) (ro : Ro S w w1) (hS : ∀ b, S b → S1 b) (hk : ∀ q, (∀ k, k ≠ 3 → q ≠ .tmp k) → L1 q = L q) : Mkr w1 S1 L1 u iB M mc bv mv tv gv ev dv er bl I := by
  obtain ⟨raws, r1, r2, r3⟩ := h.bls
  obtain ⟨traws, t1, t2, t3⟩ := h.tabs
  refine ⟨s1, (hk _ (by simp)).trans h.mach, (hk _ (by simp)).trans h.cfg, (hk _ (by simp)).trans h.ins, h.mod.mono ro hS, ⟨raws, (hk _ (by intro k hk; simpa using fun e => hk e.symm)).trans r1, r2, fun k r es a b => ?_⟩, (hk _ (by simp)).trans h.mem,
    ⟨traws, t1, (hk _ (by simp)).trans t2, fun k l v a b => (hk _ (by simp)).trans (t3 k l v a b)⟩, (hk _ (by simp)).trans h.glo, (hk _ (by simp)).trans h.els, (hk _ (by simp)).trans h.das, h.wf⟩
  obtain ⟨bb, e, hb, hm⟩ := r3 k r es a b
  exact ⟨bb, e, hS _ hb, hm.move (ro.2 _ hb)⟩
theorem Mkr.still {w1 : World} (h : Mkr w S L u iB M mc bv mv tv gv ev dv er bl I) (q : Below w.heap.size w w1) : Mkr w1 S L u iB M mc bv mv tv gv ev dv er bl I :=
  h.move (h.sep.still q.size q.block) ⟨⟨q.size, q.os, q.output⟩, fun b hb => q.block b (h.sep.lt b hb)⟩ (fun _ h => h) (fun _ _ => rfl)
theorem Mkr.mc13 (h : Mkr w S L u iB M mc bv mv tv gv ev dv er bl I) : mc.length = 13 := h.mod.len
theorem Mkr.cell (h : Mkr w S L u iB M mc bv mv tv gv ev dv er bl I) (j : Nat) (v : Value) (hv : (mc ++ (bv :: mv :: tv :: gv :: ev :: dv :: er))[j]? = some v) : w.cell? ⟨iB, j, none⟩ = some v := h.sep.cell0 h.ins j v hv
theorem Mkr.tail (h : Mkr w S L u iB M mc bv mv tv gv ev dv er bl I) (j : Nat) : (mc ++ (bv :: mv :: tv :: gv :: ev :: dv :: er))[13 + j]? = (bv :: mv :: tv :: gv :: ev :: dv :: er)[j]? := by
  rw [List.getElem?_append_right (by rw [h.mod.len]; omega), h.mod.len]
  congr 1
  omega
/-- A cell behind the module's is another one now. -/
theorem set_tail (hl : mc.length = 13) (r : List Value) (j : Nat) (x : Value) : (mc ++ r).set (13 + j) x = mc ++ r.set j x := by
  rw [List.set_append_right _ _ (by omega), hl]
  congr 2
  omega
/-- One more map of blocks. -/
theorem Mkr.block {w1 : World} {b : Nat} {es : Es} {v1 : Value} {raws : List Value} (h : Mkr w S L u iB M mc bv mv tv gv ev dv er bl I) (hb : S b) (hm : MapF w b es)
    (hraws : L (.tmp 3) = some (.rw 147 1 bv raws)) (hr : Row w1 147 1 v1 (raws ++ [.map (some b)])) (hg : w.grownBy w1 (rowBlock bv)) (ha : rowBlock v1 = rowBlock bv ∨ ∃ k, rowBlock v1 = some k ∧ w.heap.size ≤ k) :
    ∃ L', Mkr (w1.setCell ⟨iB, 13, none⟩ v1) S L' u iB M mc v1 mv tv gv ev dv er (bl ++ [es]) I ∧ Ro S w (w1.setCell ⟨iB, 13, none⟩ v1) ∧ (∀ q, q ≠ .tmp 3 → q ≠ .ins u → L' q = L q) ∧ w1.cell? ⟨iB, 13, none⟩ = some bv ∧ w1.frozen? ⟨iB, 13, none⟩ = false := by
  obtain ⟨s1, r1⟩ := h.sep.grow hraws hr hg ha
  have hI : upd L (.tmp 3) (.rw 147 1 v1 (raws ++ [.map (some b)])) (.ins u) = some (.cl iB 0 (mc ++ (bv :: mv :: tv :: gv :: ev :: dv :: er))) := by rw [upd_other _ _ (by simp)]; exact h.ins
  have s2 := s1.set0 hI 13 (by simp [h.mod.len]) v1
  have r2 := r1.trans' (s1.ro_setCell hI 13 v1)
  have hc := h.cell 13 bv (h.tail 0)
  have cl := h.sep.grown_cell hraws hg h.ins ⟨iB, 13, none⟩ rfl
  rw [set_tail h.mod.len _ 0] at s2
  obtain ⟨raws', q1, q2, q3⟩ := h.bls
  rw [hraws] at q1
  cases q1
  obtain ⟨traws, t1, t2, t3⟩ := h.tabs
  have o : ∀ q : Key, q ≠ .tmp 3 → q ≠ .ins u → upd (upd L (.tmp 3) (.rw 147 1 v1 (raws ++ [.map (some b)]))) (.ins u) (.cl iB 0 (mc ++ (bv :: mv :: tv :: gv :: ev :: dv :: er).set 0 v1)) q = L q := fun q a b => by rw [upd_other _ _ b, upd_other _ _ a]
  refine ⟨_, ⟨s2, (o _ (by simp) (by simp)).trans h.mach, (o _ (by simp) (by simp)).trans h.cfg, upd_same _ _ _, h.mod.mono r2 (fun _ h => h), ⟨raws ++ [.map (some b)], by rw [upd_other _ _ (by simp), upd_same], by simp [q2], fun k r es' a c => ?_⟩, (o _ (by simp) (by simp)).trans h.mem,
    ⟨traws, t1, (o _ (by simp) (by simp)).trans t2, fun k l v a b => (o _ (by simp) (by simp)).trans (t3 k l v a b)⟩, (o _ (by simp) (by simp)).trans h.glo, (o _ (by simp) (by simp)).trans h.els, (o _ (by simp) (by simp)).trans h.das, h.wf⟩, r2, o, cl.1.trans hc, cl.2.trans (h.sep.frozen h.ins 13)⟩
  rcases Nat.lt_or_ge k raws.length with hk | hk
  · rw [List.getElem?_append_left hk] at a
    rw [List.getElem?_append_left (by omega)] at c
    obtain ⟨bb, e, hbb, hmm⟩ := q3 k r es' a c
    exact ⟨bb, e, hbb, hmm.move (r2.2 _ hbb)⟩
  · rw [List.getElem?_append_right hk] at a
    rw [List.getElem?_append_right (by omega)] at c
    rw [q2] at a
    cases hz : k - bl.length with
    | zero =>
      rw [hz] at a c
      cases a
      cases c
      exact ⟨b, rfl, hb, hm.move (r2.2 _ hb)⟩
    | succ n =>
      rw [hz] at a
      cases a
end
end Go.Proofs.YtmnebeikafigjaaGreatDoor
/- inst's maker: blocks. -/
set_option linter.unusedVariables false
set_option linter.unusedSimpArgs false
namespace Go.Proofs.YtmnebeikafigjaaGreatDoor
open Go.RowKit Go.Sep Go.St
variable {w : World} {S : Nat → Prop} {L : Key → Option Ck} {u iB : Nat} {M : Mo} {mc : List Value} {bv mv tv gv ev dv : Value} {er : List Value} {bl : List Es} {I : In}
theorem infoMap : (Tryz.prog.info? 147).map (fun i => (i.zero, i.size, i.bytes)) = some (some (.map none), 1, 8) := by kernel_rfl
def BlsR (w : World) (S : Nat → Prop) (L : Key → Option Ck) (u iB : Nat) (M : Mo) (mc : List Value) (mv tv gv ev dv : Value) (er : List Value) (bl : List Es) (I : In) (w' : World) : Prop :=
  ∃ bv S' L', Mkr w' S' L' u iB M mc bv mv tv gv ev dv er bl I ∧ Ro S w w' ∧ (∀ b, S b → S' b) ∧ ∀ q, q ≠ .tmp 3 → q ≠ .ins u → L' q = L q
set_option maxRecDepth 100000 in
set_option maxHeartbeats 4000000 in
theorem mblocks_c (h : Mkr w S L u iB M mc bv mv tv gv ev dv [.int .i64 0] [] I) (ess : List Es) (hl : ess.length = M.codes.length) (hl2 : M.codes.length ≤ 1000) (hw : ∀ (k : Nat) c es, M.codes[k]? = some c → ess[k]? = some es → WalkOk c.body es) :
    Calls Tryz.prog 111 #[.pointer (some ⟨iB, 0, none⟩)] w fun e w' => e = .returned (.tuple #[]) ∧ BlsR w S L u iB M mc mv tv gv ev dv [.int .i64 0] ess I w' := by
  obtain ⟨cv, hcv, hcr⟩ := h.mod.codes
  have i11 := h.cell 11 cv (by rw [List.getElem?_append_left (by rw [h.mod.len]; omega)]; exact hcv)
  obtain ⟨A, c, rfl, hc1, hc2, hc3, hc4⟩ := id hcr
  have H := Lib.hid h
  have HW := Lib.hid (And.intro hl (And.intro hl2 hw))
  have HC := Lib.hid hcr
  clear h hl hl2 hw hcv hcr hc1 hc2 hc3 hc4
  go_enter Tryz.func111, Tryz.ntmps111
  go_wp2_with fail
  go_loopw [13] (fun i wr => ∃ n : Nat, n ≤ M.codes.length ∧ i = .int .i64 n ∧ BlsR w S L u iB M mc mv tv gv ev dv [.int .i64 0] (ess.take n) I wr) (fun i _ => M.codes.length - (intOf i).toNat)
  case atStart => exact ⟨0, Nat.zero_le _, rfl, bv, S, L, H.out, Ro.refl _ _, fun _ h => h, fun _ _ _ => rfl⟩
  case round =>
    obtain ⟨n, hn, rfl, bv1, S1, L1, h1, ro1, hS1, hk1⟩ := hrel
    by_cases hlt : n < M.codes.length
    · have hx : M.codes[n]? = some M.codes[n] := List.getElem?_eq_getElem hlt
      have hes : ess[n]? = some (ess[n]'(by rw [HW.out.1]; exact hlt)) := List.getElem?_eq_getElem _
      have hok := HW.out.2.2 n _ _ hx hes
      generalize ess[n]'(by rw [HW.out.1]; exact hlt) = es at hes hok
      generalize M.codes[n] = cd at hx hok
      have hcr1 := HC.out.mono ro1 hS1 (fun _ _ h => h.mono ro1 hS1)
      obtain ⟨g, o, cs, rfl, hSg, _, ⟨lv, bv9, rfl, hlv, hbv⟩, hcs⟩ := hcr1.get n cd hx
      obtain ⟨lA, lc, rfl, _, _, _, _⟩ := id hlv
      obtain ⟨bA, bc, rfl, _, _, _, _⟩ := id hbv
      have k0 := hcs 0 _ rfl
      have k1 := hcs 1 _ rfl
      rw [Nat.add_zero] at k0
      have hbody := (h1.wf.body cd (List.mem_of_getElem? hx)).1
      have hi : IntKind.i64.wrap ((n : Int) + 1) = (n : Int) + 1 := IntWalk.i64_in _ (by have := HW.out.2.1; omega)
      have i1 : decide ((n : Int) < (M.codes.length : Int)) = true := decide_eq_true (by omega)
      have q1 : Below wr.heap.size wr (wr.alloc (.cells #[.slice lA cd.ls.length lc, .slice bA cd.body.length bc] 39)) := (Below.refl _ _).alloc (Nat.le_refl _) _
      have HB := Lib.hid (blocks_c cd.body es (wr.alloc (.cells #[.slice lA cd.ls.length lc, .slice bA cd.body.length bc] 39)) (.slice bA cd.body.length bc) (hbv.mono (S := S1) (S' := fun b => b < (wr.alloc (.cells #[.slice lA cd.ls.length lc, .slice bA cd.body.length bc] 39)).heap.size) ⟨⟨q1.size, q1.os, q1.output⟩, fun b hb => q1.block b (h1.sep.lt b hb)⟩ (fun b hb => Nat.lt_of_lt_of_le (h1.sep.lt b hb) q1.size) (fun _ _ hh => hh.mono ⟨⟨q1.size, q1.os, q1.output⟩, fun b hb => q1.block b (h1.sep.lt b hb)⟩ (fun b hb => Nat.lt_of_lt_of_le (h1.sep.lt b hb) q1.size))) hbody hok)
      have H1 := Lib.hid (And.intro h1 (And.intro ro1 (And.intro hS1 hk1)))
      have HE := Lib.hid (And.intro hes q1)
      clear h1 ro1 hS1 hk1 hcr1 hSg hlv hbv hcs hbody hok hes hx q1 hn
      rename_i y1 y2 y3 y4 y5 y6 y7 y8 y9
      clear y1 y2 y3 y4 y5 y6 y7 y8 y9
      go_wp2_with fail
      refine HB.out.mono ?_
      rintro e w2 ⟨mr, rfl, hb2, hmr, hmf⟩
      have bel2 : Below wr.heap.size wr w2 := below_then HE.out.2 hb2
      have h2 := H1.out.1.still bel2
      have h3 : Mkr w2 (fun b => S1 b ∨ b = mr) L1 u iB M mc bv1 mv tv gv ev dv [.int .i64 0] (ess.take n) I := h2.move (h2.sep.more (fun k c b e1 e2 hb => by
        rcases hb with hb | rfl
        · exact h2.sep.ro k c b e1 e2 hb
        · have h9 := Ck.lt (H1.out.1.sep.holds k c e1) e2
          have := HE.out.2.size
          omega) (fun b hb => by
        rcases hb with hb | rfl
        · exact h2.sep.lt b hb
        · exact hmf.lt)) (Ro.refl _ _) (fun b hb => .inl hb) (fun _ _ => rfl)
      obtain ⟨raws, hraws, _, _⟩ := h3.bls
      have i13 : w2.cell? ⟨iB, 13, none⟩ = some bv1 := h3.cell 13 bv1 (h3.tail 0)
      have hrow := h3.sep.holds _ _ hraws
      obtain ⟨A1, m1, k1', rfl, _, _, hxl, _⟩ := Row.rd hrow
      have RD := Lib.hid (show Rd (w2.alloc (.cells #[.map (some mr)] 147)) 1 (some ⟨w2.heap.size, 0, none⟩) 1 [.map (some mr)] from ⟨rfl, fun _ => ⟨_, rfl, rfl, fun j u hu => by
        cases j with
        | zero => simp at hu; subst hu; simp [Addr.add]
        | succ j => simp at hu⟩⟩)
      have H4 := Lib.hid (h3.still ((Below.refl _ _).alloc (Nat.le_refl _) (.cells #[.map (some mr)] 147)))
      have HR := Lib.hid hraws
      have HX := Lib.hid (And.intro bel2 hmf)
      have HBY := Lib.hid (show (raws.length + 1) * 8 ≤ 140737488355328 from by
        obtain ⟨raws', a1, a2, _⟩ := h3.bls
        rw [hraws] at a1
        cases a1
        rw [a2, List.length_take]
        have := HW.out.2.1
        omega)
      have HO1 := Lib.hid (show ∀ u ∈ [Value.map (some mr)], u.oneCell' = true by simp [Value.oneCell'])
      clear h2 h3 hrow hraws hb2 hmr hmf bel2 hxl HB
      rename_i z1 z2 z3 z4 z5
      clear z1 z2 z3 z4 z5
      go_wp2_with (at_builtin; refine wpList_append_row (by rfl) _ _ _ (by rfl) 147 1 (.map none) 8 Tryz.underlying63 infoMap rfl (by omega) (by omega) (.slice A1 m1 k1') raws (by rfl) (some ⟨w2.heap.size, 0, none⟩) 1 1 [.map (some mr)] (by rfl) (H4.out.sep.holds _ _ HR.out) RD.out HO1.out HBY.out ?_; intro B1 m2 c3 w3 hr1 hg1 ha1; obtain ⟨L5, h5, ro5, hk5, c13, z13⟩ := H4.out.block (b := mr) (es := es) (.inr rfl) (HX.out.2.move (heap_alloc_old _ _ HX.out.2.lt)) HR.out hr1.out hg1.out ha1.out; have H5 := Lib.hid (And.intro h5 (And.intro ro5 hk5)); clear h5 ro5 hk5 hr1 hg1 ha1)
      go_roundw
      case rel =>
        refine ⟨n + 1, hlt, by go_num, .slice B1 m2 c3, (fun b => S1 b ∨ b = mr), L5, ?_, ?_, fun b hb => Or.inl (H1.out.2.2.1 b hb), fun q a b => (H5.out.2.2 q a b).trans (H1.out.2.2.2 q a b)⟩
        · have := H5.out.1
          rw [List.take_add_one, HE.out.1]
          exact this
        · have b2 := HX.out.1
          have r1 : Ro S1 wr w2 := ⟨⟨b2.size, b2.os, b2.output⟩, fun b hb => b2.block b (H1.out.1.sep.lt b hb)⟩
          have r2 : Ro S1 w2 (w2.alloc (.cells #[.map (some mr)] 147)) := ⟨⟨by simp, rfl, rfl⟩, fun b hb => heap_alloc_old w2 _ (Nat.lt_of_lt_of_le (H1.out.1.sep.lt b hb) b2.size)⟩
          have r3 : Ro S1 (w2.alloc (.cells #[.map (some mr)] 147)) (w3.setCell ⟨iB, 13, none⟩ (.slice B1 m2 c3)) := ⟨H5.out.2.1.1, fun b hb => H5.out.2.1.2 b (.inl hb)⟩
          exact H1.out.2.1.trans ((r1.trans' r2).trans' r3) H1.out.2.2.1
      case measure => (simp [intOf]; try omega)
    · obtain rfl : n = M.codes.length := by omega
      have hd0 : decide ((M.codes.length : Int) < (M.codes.length : Int)) = false := decide_eq_false (by omega)
      have H1 := Lib.hid (And.intro h1 (And.intro ro1 (And.intro hS1 hk1)))
      clear h1 ro1 hS1 hk1 hlt hn
      go_wp2
      go_end0
      exact ⟨rfl, bv1, S1, L1, by have := H1.out.1; rwa [← HW.out.1, List.take_length] at this, H1.out.2.1, H1.out.2.2.1, H1.out.2.2.2⟩
end Go.Proofs.YtmnebeikafigjaaGreatDoor
/- inst's maker: what makes rooms. -/
set_option linter.unusedVariables false
set_option linter.unusedSimpArgs false
namespace Go.Proofs.YtmnebeikafigjaaGreatDoor
open Go.RowKit Go.Sep Go.St
variable {w : World} {S : Nat → Prop} {L : Key → Option Ck} {u iB : Nat} {M : Mo} {mc : List Value} {bv mv tv gv ev dv : Value} {er : List Value} {bl : List Es} {I : In}
theorem infoU8 : (Tryz.prog.info? 5).map (fun i => (i.zero, i.size, i.bytes)) = some (some (.int .u8 0), 1, 1) := by kernel_rfl
theorem infoBool : (Tryz.prog.info? 4).map (fun i => (i.zero, i.size, i.bytes)) = some (some (.bool false), 1, 1) := by kernel_rfl
theorem infoRow : (Tryz.prog.info? 57).map (fun i => (i.zero, i.size, i.bytes)) = some (some (.slice none 0 0), 1, 24) := by kernel_rfl
def memC (M : Mo) : List Int := match M.mems with
  | [] => []
  | l :: _ => List.replicate (l.min.toNat * 65536) 0
def tabsC (l : List Lim) : List (List Int) := l.map fun t => List.replicate t.min.toNat 0
theorem ints_rep (k : IntKind) (n : Nat) : ints k (List.replicate n 0) = List.replicate n (.int k 0) := by simp [ints]
theorem bools_rep (n : Nat) : bools (List.replicate n false) = List.replicate n (.bool false) := by simp [bools]
/-- Memory is a row of noughts now. -/
theorem Mkr.mem0 (h : Mkr w S L u iB M mc bv mv tv gv ev dv er bl I) (n : Nat) (hn : n ≤ 1000000) :
    ∃ L', Mkr ((w.alloc (.cells (Array.replicate n (.int .u8 0)) 5)).setCell ⟨iB, 14, none⟩ (.slice (some ⟨w.heap.size, 0, none⟩) n n)) S L' u iB M mc bv (.slice (some ⟨w.heap.size, 0, none⟩) n n) tv gv ev dv er bl { I with mem := List.replicate n 0 } ∧
      Ro S w ((w.alloc (.cells (Array.replicate n (.int .u8 0)) 5)).setCell ⟨iB, 14, none⟩ (.slice (some ⟨w.heap.size, 0, none⟩) n n)) ∧ ∀ q, q ≠ .mem u → q ≠ .ins u → L' q = L q := by
  have s1 := h.sep.newRow (.mem u) (Array.replicate n (.int .u8 0)) 5 1 n (by simp) (by simp [maxLen]; omega)
  have r1 : Ro S w (w.alloc (.cells (Array.replicate n (.int .u8 0)) 5)) := ⟨⟨by simp, rfl, rfl⟩, fun b hb => heap_alloc_old w _ (h.sep.lt b hb)⟩
  rw [Array.toList_replicate, ← ints_rep] at s1
  have hI : upd L (.mem u) (.rw 5 1 (.slice (some ⟨w.heap.size, 0, none⟩) n n) (ints .u8 (List.replicate n 0))) (.ins u) = some (.cl iB 0 (mc ++ (bv :: mv :: tv :: gv :: ev :: dv :: er))) := by rw [upd_other _ _ (by simp)]; exact h.ins
  have s2 := s1.set0 hI 14 (by simp [h.mod.len]; omega) (.slice (some ⟨w.heap.size, 0, none⟩) n n)
  have r2 := r1.trans' (s1.ro_setCell hI 14 (.slice (some ⟨w.heap.size, 0, none⟩) n n))
  rw [set_tail h.mod.len _ 1] at s2
  obtain ⟨raws, q1, q2, q3⟩ := h.bls
  obtain ⟨traws, t1, t2, t3⟩ := h.tabs
  have o : ∀ q : Key, q ≠ .mem u → q ≠ .ins u → upd (upd L (.mem u) (.rw 5 1 (.slice (some ⟨w.heap.size, 0, none⟩) n n) (ints .u8 (List.replicate n 0)))) (.ins u) (.cl iB 0 (mc ++ (bv :: mv :: tv :: gv :: ev :: dv :: er).set 1 (.slice (some ⟨w.heap.size, 0, none⟩) n n))) q = L q := fun q a b => by rw [upd_other _ _ b, upd_other _ _ a]
  refine ⟨_, ⟨s2, (o _ (by simp) (by simp)).trans h.mach, (o _ (by simp) (by simp)).trans h.cfg, upd_same _ _ _, h.mod.mono r2 (fun _ h => h), ⟨raws, (o _ (by simp) (by simp)).trans q1, q2, fun k r es a c => ?_⟩, by rw [upd_other _ _ (by simp), upd_same],
    ⟨traws, t1, (o _ (by simp) (by simp)).trans t2, fun k l v a b => (o _ (by simp) (by simp)).trans (t3 k l v a b)⟩, (o _ (by simp) (by simp)).trans h.glo, (o _ (by simp) (by simp)).trans h.els, (o _ (by simp) (by simp)).trans h.das, h.wf⟩, r2, o⟩
  obtain ⟨bb, e, hbb, hmm⟩ := q3 k r es a c
  exact ⟨bb, e, hbb, hmm.move (r2.2 _ hbb)⟩
/-- One more table: its row is made already. -/
theorem Mkr.table {w1 : World} {v1 vt : Value} {traws : List Value} {t : List Int} (h : Mkr w S L u iB M mc bv mv tv gv ev dv er bl I)
    (s0 : Sep w S (upd L (.tab u I.tabs.length) (.rw 26 1 vt (ints .u64 t)))) (t1 : traws.length = I.tabs.length) (t2 : L (.tbs u) = some (.rw 57 1 tv traws)) (t3 : ∀ (k : Nat) l v, I.tabs[k]? = some l → traws[k]? = some v → L (.tab u k) = some (.rw 26 1 v (ints .u64 l)))
    (hr : Row w1 57 1 v1 (traws ++ [vt])) (hg : w.grownBy w1 (rowBlock tv)) (ha : rowBlock v1 = rowBlock tv ∨ ∃ k, rowBlock v1 = some k ∧ w.heap.size ≤ k) :
    ∃ L', Mkr (w1.setCell ⟨iB, 15, none⟩ v1) S L' u iB M mc bv mv v1 gv ev dv er bl { I with tabs := I.tabs ++ [t] } ∧ Ro S w (w1.setCell ⟨iB, 15, none⟩ v1) ∧ (∀ q, (∀ k, q ≠ .tab u k) → q ≠ .tbs u → q ≠ .ins u → L' q = L q) ∧ w1.cell? ⟨iB, 15, none⟩ = some tv ∧ w1.frozen? ⟨iB, 15, none⟩ = false := by
  have hT : upd L (.tab u I.tabs.length) (.rw 26 1 vt (ints .u64 t)) (.tbs u) = some (.rw 57 1 tv traws) := by rw [upd_other _ _ (by simp)]; exact t2
  obtain ⟨s1, r1⟩ := s0.grow hT hr hg ha
  have hI0 : upd L (.tab u I.tabs.length) (.rw 26 1 vt (ints .u64 t)) (.ins u) = some (.cl iB 0 (mc ++ (bv :: mv :: tv :: gv :: ev :: dv :: er))) := by rw [upd_other _ _ (by simp)]; exact h.ins
  have hI : upd (upd L (.tab u I.tabs.length) (.rw 26 1 vt (ints .u64 t))) (.tbs u) (.rw 57 1 v1 (traws ++ [vt])) (.ins u) = some (.cl iB 0 (mc ++ (bv :: mv :: tv :: gv :: ev :: dv :: er))) := by rw [upd_other _ _ (by simp)]; exact hI0
  have s2 := s1.set0 hI 15 (by simp [h.mod.len]; omega) v1
  have r2 := r1.trans' (s1.ro_setCell hI 15 v1)
  have hc := h.cell 15 tv (h.tail 2)
  have cl := s0.grown_cell hT hg hI0 ⟨iB, 15, none⟩ rfl
  rw [set_tail h.mod.len _ 2] at s2
  obtain ⟨raws, q1, q2, q3⟩ := h.bls
  have o : ∀ q : Key, (∀ k, q ≠ .tab u k) → q ≠ .tbs u → q ≠ .ins u → upd (upd (upd L (.tab u I.tabs.length) (.rw 26 1 vt (ints .u64 t))) (.tbs u) (.rw 57 1 v1 (traws ++ [vt]))) (.ins u) (.cl iB 0 (mc ++ (bv :: mv :: tv :: gv :: ev :: dv :: er).set 2 v1)) q = L q := fun q a b c => by rw [upd_other _ _ c, upd_other _ _ b, upd_other _ _ (a _)]
  refine ⟨_, ⟨s2, (o _ (by simp) (by simp) (by simp)).trans h.mach, (o _ (by simp) (by simp) (by simp)).trans h.cfg, upd_same _ _ _, h.mod.mono r2 (fun _ h => h), ⟨raws, (o _ (by simp) (by simp) (by simp)).trans q1, q2, fun k r es a c => ?_⟩, (o _ (by simp) (by simp) (by simp)).trans h.mem,
    ⟨traws ++ [vt], by simp [t1], by rw [upd_other _ _ (by simp), upd_same], fun k l v a b => ?_⟩, (o _ (by simp) (by simp) (by simp)).trans h.glo, (o _ (by simp) (by simp) (by simp)).trans h.els, (o _ (by simp) (by simp) (by simp)).trans h.das, h.wf⟩, r2, o, cl.1.trans hc, cl.2.trans (s0.frozen hI0 15)⟩
  · obtain ⟨bb, e, hbb, hmm⟩ := q3 k r es a c
    exact ⟨bb, e, hbb, hmm.move (r2.2 _ hbb)⟩
  · rw [upd_other _ _ (by simp), upd_other _ _ (by simp)]
    by_cases hk : k = I.tabs.length
    · subst hk
      rw [upd_same]
      rw [List.getElem?_append_right (Nat.le_refl _), Nat.sub_self] at a
      rw [List.getElem?_append_right (by omega), t1, Nat.sub_self] at b
      cases a
      cases b
      rfl
    · rw [upd_other _ _ (by simpa using hk)]
      have hlt : k < I.tabs.length := by
        have := (List.getElem?_eq_some_iff.1 a).1
        simp at this
        omega
      rw [List.getElem?_append_left hlt] at a
      rw [List.getElem?_append_left (by omega)] at b
      exact t3 k l v a b
end Go.Proofs.YtmnebeikafigjaaGreatDoor
/- inst's maker: room. -/
set_option linter.unusedVariables false
set_option linter.unusedSimpArgs false
namespace Go.Proofs.YtmnebeikafigjaaGreatDoor
open Go.RowKit Go.Sep Go.St
variable {w : World} {S : Nat → Prop} {L : Key → Option Ck} {u iB : Nat} {M : Mo} {mc : List Value} {bv mv tv gv ev dv : Value} {er : List Value} {bl : List Es} {I : In}
def RoomR (w : World) (S : Nat → Prop) (L : Key → Option Ck) (u iB : Nat) (M : Mo) (mc : List Value) (bv gv ev dv : Value) (er : List Value) (bl : List Es) (I : In) (w' : World) : Prop :=
  ∃ mv tv L', Mkr w' S L' u iB M mc bv mv tv gv ev dv er bl I ∧ Ro S w w' ∧ ∀ q, (∀ k, q ≠ .tab u k) → q ≠ .tbs u → q ≠ .mem u → q ≠ .ins u → L' q = L q
theorem in_eq {I : In} {l : List Lim} (h1 : I.mem = []) (h2 : I.tabs = []) : ({ I with mem := [], tabs := tabsC (l.take 0) } : In) = I := by
  obtain ⟨a, b, c, d, f, g⟩ := I
  cases h1
  cases h2
  rfl
theorem in_eq2 {I : In} {l : List Lim} (m : List Int) (h2 : I.tabs = []) : ({ I with mem := m, tabs := tabsC (l.take 0) } : In) = { I with mem := m } := by
  obtain ⟨a, b, c, d, f, g⟩ := I
  cases h2
  rfl
theorem cell_new (w : World) (x : Value) (t : TypeId) : (w.alloc (.cells #[x] t)).cell? ⟨w.heap.size, 0, none⟩ = some x := by simp
set_option maxRecDepth 100000 in
set_option maxHeartbeats 4000000 in
theorem room_c (h : Mkr w S L u iB M mc bv mv tv gv ev dv [.int .i64 0] bl I) (hI : I.mem = [] ∧ I.tabs = []) (hm : M.mems.length ≤ 1 ∧ ∀ x ∈ M.mems, x.min ≤ 1) (ht : M.tabs.length ≤ 1000 ∧ ∀ x ∈ M.tabs, x.min ≤ 64) :
    Calls Tryz.prog 110 #[.pointer (some ⟨iB, 0, none⟩)] w fun e w' => e = .returned (.tuple #[]) ∧ RoomR w S L u iB M mc bv gv ev dv [.int .i64 0] bl { I with mem := memC M, tabs := tabsC M.tabs } w' := by
  obtain ⟨mlv, hmlv, hmr⟩ := h.mod.mems
  obtain ⟨tlv, htlv, htr⟩ := h.mod.tabs
  have i3 := h.cell 3 mlv (by rw [List.getElem?_append_left (by rw [h.mod.len]; omega)]; exact hmlv)
  have i2 := h.cell 2 tlv (by rw [List.getElem?_append_left (by rw [h.mod.len]; omega)]; exact htlv)
  have i14 := h.cell 14 mv (h.tail 1)
  have z := h.sep.frozen h.ins
  have z14 := z 14
  obtain ⟨mA, mk, rfl, hk1, hk2, hk3, hk4⟩ := id hmr
  obtain ⟨tA, tk, rfl, ht1, ht2, ht3, ht4⟩ := id htr
  have HT := Lib.hid (And.intro htr (And.intro ht h.wf))
  have hwf := h.wf.lims
  have H := Lib.hid h
  have HI := Lib.hid hI
  clear hI hk1 hk2 hk4 ht1 ht2 ht3 ht4 z h htr ht hmlv htlv
  rcases hmm : M.mems with _ | ⟨l0, r0⟩
  · rw [hmm] at i3 hmr
    have HMC := Lib.hid (show memC M = [] by unfold memC; rw [hmm])
    clear hmr hk3 hwf hm hmm
    go_enter Tryz.func110, Tryz.ntmps110
    go_wp2_with fail
    have H2 := Lib.hid (show RoomR w S L u iB M mc bv gv ev dv [.int .i64 0] bl { I with mem := memC M, tabs := tabsC (M.tabs.take 0) } w from ⟨mv, tv, L, by rw [HMC.out, in_eq HI.out.1 HI.out.2]; exact H.out, Ro.refl _ _, fun _ _ _ _ _ => rfl⟩)
    go_loopw [45] (fun i wr => ∃ n : Nat, n ≤ M.tabs.length ∧ i = .int .i64 n ∧ RoomR w S L u iB M mc bv gv ev dv [.int .i64 0] bl { I with mem := memC M, tabs := tabsC (M.tabs.take n) } wr) (fun i _ => M.tabs.length - (intOf i).toNat)
    case atStart => exact ⟨0, Nat.zero_le _, rfl, by first | exact H2.out | (rw [← World.setCell_alloc_past _ _ _ _ hib]; exact H2.out)⟩
    case round =>
      obtain ⟨n, hn, rfl, mv1, tv1, L1, h1, ro1, hk1⟩ := hrel
      by_cases hlt : n < M.tabs.length
      · have hx : M.tabs[n]? = some M.tabs[n] := List.getElem?_eq_getElem hlt
        generalize M.tabs[n] = x at hx
        have htr1 := HT.out.1.mono ro1 (fun _ h => h) (fun _ _ h => h)
        obtain ⟨g, o, cs, rfl, hSg, _, ⟨ty, rfl⟩, hcs⟩ := htr1.get n x hx
        have k0 := hcs 0 _ rfl
        have k1 := hcs 1 _ rfl
        have k2 := hcs 2 _ rfl
        have k3 := hcs 3 _ rfl
        rw [Nat.add_zero] at k0
        have hmx := HT.out.2.1.2 x (List.mem_of_getElem? hx)
        have hwx := HT.out.2.2.lims x (List.mem_append_right _ (List.mem_of_getElem? hx))
        obtain ⟨q, hq⟩ : ∃ q : Nat, x.min = q := ⟨x.min.toNat, by omega⟩
        rw [hq] at k1
        have hq1 : q ≤ 64 := by omega
        have e1 : decide ((64 : Int) < (q : Int)) = false := decide_eq_false (by omega)
        have e2 : decide ((q : Int) > 64) = false := decide_eq_false (by omega)
        have e3 : decide (64 < q) = false := decide_eq_false (by omega)
        have hi : IntKind.i64.wrap ((n : Int) + 1) = (n : Int) + 1 := IntWalk.i64_in _ (by have := HT.out.2.1.1; omega)
        have i1 : decide ((n : Int) < (M.tabs.length : Int)) = true := decide_eq_true (by omega)
        have bel2 : Below wr.heap.size wr (wr.alloc (.cells #[.int .u8 ty, .int .u32 q, .int .u32 x.max, .bool x.has] 83)) := (Below.refl _ _).alloc (Nat.le_refl _) _
        have h2 := h1.still bel2
        have hTX := Lib.hid (show tabsC (M.tabs.take (n + 1)) = tabsC (M.tabs.take n) ++ [List.replicate q 0] by rw [List.take_add_one, hx]; simp [tabsC, hq])
        have hTL : (tabsC (M.tabs.take n)).length = n := by simp [tabsC]; omega
        obtain ⟨traws, t1, t2, t3⟩ := h2.tabs
        rw [hTL] at t1
        have hrow := h2.sep.holds _ _ t2
        obtain ⟨A1, m1, k1', rfl, _, _, hxl, _⟩ := Row.rd hrow
        have i15 : (wr.alloc (.cells #[.int .u8 ty, .int .u32 q, .int .u32 x.max, .bool x.has] 83)).cell? ⟨iB, 15, none⟩ = some (.slice A1 m1 k1') := h2.cell 15 _ (h2.tail 2)
        have tB1 : (wr.alloc (.cells #[.int .u8 ty, .int .u32 q, .int .u32 x.max, .bool x.has] 83)).cell? ⟨wr.heap.size, 1, none⟩ = some (.int .u32 q) := by simp
        have hrb : rowBlock (.slice A1 m1 k1') ≠ some wr.heap.size := by
          intro hh
          obtain ⟨traws0, _, b2, _⟩ := h1.tabs
          have := Ck.lt (h1.sep.holds _ _ b2) hh
          omega
        have HX := Lib.hid (And.intro h1 (And.intro ro1 (And.intro hk1 hrb)))
        clear h1 ro1 hk1 htr1 hSg hcs hmx hwx hn hx hrow hxl hrb
        generalize hwb : wr.alloc (.cells #[.int .u8 ty, .int .u32 q, .int .u32 x.max, .bool x.has] 83) = w2 at h2 i15 tB1 bel2
        have i15 := i15
        have HB2 := Lib.hid bel2
        have KEY := Lib.hid (show ∀ w', Below w2.heap.size w2 w' → w'.cell? ⟨iB, 15, none⟩ = some (.slice A1 m1 k1') ∧ w'.cell? ⟨wr.heap.size, 1, none⟩ = some (.int .u32 q) from fun w' hb => ⟨(hb.cell (World.block_lt_of_cell? _ _ i15)).trans i15, (hb.cell (World.block_lt_of_cell? _ _ tB1)).trans tB1⟩)
        have mk2 := run_mk w2.drew 57 26 (.int .u64 0) 8 Tryz.underlying57 infoU64 rfl (by omega) q (by omega) .u32 .u32
        have b3 : Below w2.heap.size w2 (w2.drew.alloc (.cells (Array.replicate q (.int .u64 0)) 26)) := (Below.refl _ _).drew.alloc (Nat.le_refl _) _
        have b4 : Below w2.heap.size w2 ((w2.drew.alloc (.cells (Array.replicate q (.int .u64 0)) 26)).alloc (.cells #[.slice (some ⟨w2.heap.size, 0, none⟩) q q] 57)) := b3.alloc (by simp) _
        have h4 := h2.still b4
        have s3 := (h2.sep.drew).newRow (.tab u n) (Array.replicate q (.int .u64 0)) 26 1 q (by simp) (by simp [maxLen]; omega)
        rw [Array.toList_replicate, ← ints_rep] at s3
        have s4 := s3.alloc (.cells #[.slice (some ⟨w2.heap.size, 0, none⟩) q q] 57)
        have hrow4 := h4.sep.holds _ _ t2
        have RD := Lib.hid (show Rd ((w2.drew.alloc (.cells (Array.replicate q (.int .u64 0)) 26)).alloc (.cells #[.slice (some ⟨w2.heap.size, 0, none⟩) q q] 57)) 1 (some ⟨w2.heap.size + 1, 0, none⟩) 1 [.slice (some ⟨w2.heap.size, 0, none⟩) q q] from ⟨rfl, fun _ => ⟨_, rfl, rfl, fun j u hu => by
          cases j with
          | zero => simp at hu; subst hu; rw [show (Addr.mk (w2.heap.size + 1) 0 none).add 0 = ⟨w2.heap.size + 1, 0, none⟩ by simp [Addr.add], show w2.heap.size + 1 = (w2.drew.alloc (.cells (Array.replicate q (.int .u64 0)) 26)).heap.size by simp]; exact cell_new _ _ _
          | succ j => simp at hu⟩⟩)
        have HBY := Lib.hid (show (traws.length + 1) * 24 ≤ 140737488355328 from by have := HT.out.2.1.1; omega)
        have HO1 := Lib.hid (show ∀ z ∈ [Value.slice (some ⟨w2.heap.size, 0, none⟩) q q], z.oneCell' = true by simp [Value.oneCell'])
        have H4 := Lib.hid (And.intro h4 (And.intro (show Sep _ S (upd L1 (.tab u (tabsC (M.tabs.take n)).length) _) by rw [hTL]; exact s4) (And.intro (show traws.length = (tabsC (M.tabs.take n)).length by rw [hTL]; exact t1) (And.intro t2 (And.intro t3 b4)))))
        have HR4 := Lib.hid hrow4
        clear h2 b3 b4 h4 s3 s4 hrow4 t1 t2 t3 hTL bel2 i2
        rename_i y1 y2
        clear y1 y2
        go_wp2_with fail
        refine wp_region_z (fun w' => w'.cell? ⟨iB, 15, none⟩ = some (.slice A1 m1 k1') ∧ w'.cell? ⟨wr.heap.size, 1, none⟩ = some (.int .u32 q)) (fun j => j == 12 || j == 13 || j == 14 || j == 15) (by kernel_rfl) ?_ (fun hHeld => ?_)
        · first | exact KEY.out _ (Below.refl _ _).drew | exact KEY.out _ ((Below.refl _ _).drew.alloc (Nat.le_refl _) _) | exact KEY.out _ (((Below.refl _ _).drew.alloc (Nat.le_refl _) _).alloc (by simp) _) | exact ⟨c15, ct⟩
        (refine wpZ_take (i := 0) (oi := ⟨some 56, .move (.tmp 0), 191, _, _, none⟩) (v := ?_) rfl (by kernel_rfl) (fun _ _ _ h => h) (by assumption) (Or.inl ⟨by rfl, ?_⟩) ?_; rotate_left 1; · ((intro w hSw; (try dsimp only at hSw); go_split_ands; go_simp) <;> (try with_reducible rfl)))
        try simp only [Act.put, List.setIfInBounds_toArray, List.set_cons_zero, List.set_cons_succ]
        (refine wpZ_take (i := 1) (oi := ⟨some 57, .move (.tmp 0), 191, _, _, none⟩) (v := ?_) rfl (by kernel_rfl) (fun _ _ _ h => h) (by assumption) (Or.inl ⟨by rfl, ?_⟩) ?_; rotate_left 1; · ((intro w hSw; (try dsimp only at hSw); go_split_ands; go_simp) <;> (try with_reducible rfl)))
        try simp only [Act.put, List.setIfInBounds_toArray, List.set_cons_zero, List.set_cons_succ]
        (refine wpZ_take (i := 2) (oi := ⟨some 58, .nilCheck (.tmp 57), 0, _, _, none⟩) (v := ?_) rfl (by kernel_rfl) (fun _ _ _ h => h) (by assumption) (Or.inl ⟨by rfl, ?_⟩) ?_; rotate_left 1; · ((intro w hSw; (try dsimp only at hSw); go_split_ands; go_simp) <;> (try with_reducible rfl)))
        try simp only [Act.put, List.setIfInBounds_toArray, List.set_cons_zero, List.set_cons_succ]
        (refine wpZ_take (i := 3) (oi := ⟨some 59, .fieldAddr 193 (.tmp 58) 0, 0, _, _, none⟩) (v := ?_) rfl (by kernel_rfl) (fun _ _ _ h => h) (by assumption) (Or.inl ⟨by rfl, ?_⟩) ?_; rotate_left 1; · ((intro w hSw; (try dsimp only at hSw); go_split_ands; go_simp) <;> (try with_reducible rfl)))
        try simp only [Act.put, List.setIfInBounds_toArray, List.set_cons_zero, List.set_cons_succ]
        (refine wpZ_take (i := 4) (oi := ⟨some 60, .fieldAddr 67 (.tmp 59) 3, 0, _, _, none⟩) (v := ?_) rfl (by kernel_rfl) (fun _ _ _ h => h) (by assumption) (Or.inl ⟨by rfl, ?_⟩) ?_; rotate_left 1; · ((intro w hSw; (try dsimp only at hSw); go_split_ands; go_simp) <;> (try with_reducible rfl)))
        try simp only [Act.put, List.setIfInBounds_toArray, List.set_cons_zero, List.set_cons_succ]
        (refine wpZ_take (i := 5) (oi := ⟨some 61, .load 64 (.tmp 60), 64, _, _, none⟩) (v := ?_) rfl (by kernel_rfl) (fun _ _ _ h => h) (by assumption) (Or.inl ⟨by rfl, ?_⟩) ?_; rotate_left 1; · ((intro w hSw; (try dsimp only at hSw); go_split_ands; go_simp) <;> (try with_reducible rfl)))
        try simp only [Act.put, List.setIfInBounds_toArray, List.set_cons_zero, List.set_cons_succ]
        (refine wpZ_take (i := 6) (oi := ⟨some 62, .fieldAddr 83 (.tmp 4) 1, 0, _, _, none⟩) (v := ?_) rfl (by kernel_rfl) (fun _ _ _ h => h) (by assumption) (Or.inl ⟨by rfl, ?_⟩) ?_; rotate_left 1; · ((intro w hSw; (try dsimp only at hSw); go_split_ands; go_simp) <;> (try with_reducible rfl)))
        try simp only [Act.put, List.setIfInBounds_toArray, List.set_cons_zero, List.set_cons_succ]
        (refine wpZ_take (i := 7) (oi := ⟨some 63, .fieldAddr 42 (.tmp 62) 0, 0, _, _, none⟩) (v := ?_) rfl (by kernel_rfl) (fun _ _ _ h => h) (by assumption) (Or.inl ⟨by rfl, ?_⟩) ?_; rotate_left 1; · ((intro w hSw; (try dsimp only at hSw); go_split_ands; go_simp) <;> (try with_reducible rfl)))
        try simp only [Act.put, List.setIfInBounds_toArray, List.set_cons_zero, List.set_cons_succ]
        (refine wpZ_take (i := 8) (oi := ⟨some 64, .load 25 (.tmp 63), 25, _, _, none⟩) (v := ?_) rfl (by kernel_rfl) (fun _ _ _ h => h) (by assumption) (Or.inl ⟨by rfl, ?_⟩) ?_; rotate_left 1; · ((intro w hSw; (try dsimp only at hSw); go_split_ands; go_simp) <;> (try with_reducible rfl)))
        try simp only [Act.put, List.setIfInBounds_toArray, List.set_cons_zero, List.set_cons_succ]
        refine wpZ_one (i := 9) (oi := ⟨some 65, .makeSlice 57 (.tmp 64) (.tmp 64), 57, _, _, none⟩) rfl (by kernel_rfl) (fun K hK => ?_)
        go_simp
        refine hK.out _ _ (fun _ => by (first | exact KEY.out _ (Below.refl _ _).drew | exact KEY.out _ ((Below.refl _ _).drew.alloc (Nat.le_refl _) _) | exact KEY.out _ (((Below.refl _ _).drew.alloc (Nat.le_refl _) _).alloc (by simp) _) | exact ⟨c15, ct⟩)) (fun hh => ?_)
        have hHeld := hh rfl
        clear hK K
        try simp only [Act.put, List.setIfInBounds_toArray, List.set_cons_zero, List.set_cons_succ]
        refine wpZ_one (i := 10) (oi := ⟨some 66, .buildSlice 64 1 #[(0, .tmp 65)], 64, _, _, none⟩) rfl (by kernel_rfl) (fun K hK => ?_)
        go_simp
        refine hK.out _ _ (fun _ => by (first | exact KEY.out _ (Below.refl _ _).drew | exact KEY.out _ ((Below.refl _ _).drew.alloc (Nat.le_refl _) _) | exact KEY.out _ (((Below.refl _ _).drew.alloc (Nat.le_refl _) _).alloc (by simp) _) | exact ⟨c15, ct⟩)) (fun hh => ?_)
        have hHeld := hh rfl
        clear hK K
        try simp only [Act.put, List.setIfInBounds_toArray, List.set_cons_zero, List.set_cons_succ]
        refine wpZ_one (i := 11) (oi := ⟨some 67, .call { callee := .builtin .append, args := #[.tmp 61, .tmp 66], argTypes := #[64, 64] }, 64, _, _, none⟩) rfl (by kernel_rfl) (fun K hK => ?_)
        refine step_append_row (by rfl) _ _ _ (by rfl) 57 1 _ 24 Tryz.underlying64 infoRow rfl (by omega) (by omega) (.slice A1 m1 k1') traws (by rfl) (some ⟨w2.heap.size + 1, 0, none⟩) 1 1 [.slice (some ⟨w2.heap.size, 0, none⟩) q q] (by rfl) HR4.out RD.out HO1.out HBY.out ?_; intro B1 m2 c3 w5 hr1 hg1 ha1; obtain ⟨L5, h5, ro5, hk5, c15, z15⟩ := H4.out.1.table H4.out.2.1 H4.out.2.2.1 H4.out.2.2.2.1 H4.out.2.2.2.2.1 hr1.out hg1.out ha1.out; have ct : w5.cell? ⟨wr.heap.size, 1, none⟩ = some (.int .u32 q) := hg1.out.cell (KEY.out _ H4.out.2.2.2.2.2).2 (by simpa using fun e => HX.out.2.2.2 e.symm); have H5 := Lib.hid (And.intro h5 (And.intro ro5 hk5)); clear h5 ro5 hk5 hr1 hg1 ha1
        refine hK.out _ _ (fun _ => by (first | exact KEY.out _ (Below.refl _ _).drew | exact KEY.out _ ((Below.refl _ _).drew.alloc (Nat.le_refl _) _) | exact KEY.out _ (((Below.refl _ _).drew.alloc (Nat.le_refl _) _).alloc (by simp) _) | exact ⟨c15, ct⟩)) (fun hh => ?_)
        have hHeld := hh rfl
        clear hK K
        try simp only [Act.put, List.setIfInBounds_toArray, List.set_cons_zero, List.set_cons_succ]
        refine wpZ_one (i := 12) (oi := ⟨some 68, .nilCheck (.tmp 56), 0, _, _, none⟩) rfl (by kernel_rfl) (fun K hK => ?_)
        go_simp
        refine hK.out _ _ (fun h => by simp at h) (fun _ => ?_)
        clear hK K
        try simp only [Act.put, List.setIfInBounds_toArray, List.set_cons_zero, List.set_cons_succ]
        refine wpZ_one (i := 13) (oi := ⟨some 69, .fieldAddr 193 (.tmp 68) 0, 0, _, _, none⟩) rfl (by kernel_rfl) (fun K hK => ?_)
        go_simp
        refine hK.out _ _ (fun h => by simp at h) (fun _ => ?_)
        clear hK K
        try simp only [Act.put, List.setIfInBounds_toArray, List.set_cons_zero, List.set_cons_succ]
        refine wpZ_one (i := 14) (oi := ⟨some 70, .fieldAddr 67 (.tmp 69) 3, 0, _, _, none⟩) rfl (by kernel_rfl) (fun K hK => ?_)
        go_simp
        refine hK.out _ _ (fun h => by simp at h) (fun _ => ?_)
        clear hK K
        try simp only [Act.put, List.setIfInBounds_toArray, List.set_cons_zero, List.set_cons_succ]
        refine wpZ_one (i := 15) (oi := ⟨none, .store 64 (.tmp 70) (.tmp 67), 0, _, _, none⟩) rfl (by kernel_rfl) (fun K hK => ?_)
        go_simp
        refine hK.out _ _ (fun h => by simp at h) (fun _ => ?_)
        clear hK K
        try simp only [Act.put, List.setIfInBounds_toArray, List.set_cons_zero, List.set_cons_succ]
        refine wpZ_done (by kernel_rfl) ?_ _
        go_wp2
        go_roundw
        case rel =>
          refine ⟨n + 1, hlt, by go_num, mv1, .slice B1 m2 c3, L5, by rw [hTX.out]; exact H5.out.1, ?_, fun q a b c d => (H5.out.2.2 q a b d).trans (HX.out.2.2.1 q a b c d)⟩
          have b4 := below_then HB2.out H4.out.2.2.2.2.2
          have r1 : Ro S wr ((w2.drew.alloc (.cells (Array.replicate q (.int .u64 0)) 26)).alloc (.cells #[.slice (some ⟨w2.heap.size, 0, none⟩) q q] 57)) := ⟨⟨b4.size, b4.os, b4.output⟩, fun b hb => b4.block b (HX.out.1.sep.lt b hb)⟩
          exact (HX.out.2.1.trans' r1).trans' H5.out.2.1
        case measure => (simp [intOf]; try omega)
      · obtain rfl : n = M.tabs.length := by omega
        have hd0 : decide ((M.tabs.length : Int) < (M.tabs.length : Int)) = false := decide_eq_false (by omega)
        have H1 := Lib.hid (And.intro h1 (And.intro ro1 hk1))
        clear h1 ro1 hk1 hlt hn
        go_wp2
        go_end0
        exact ⟨rfl, mv1, tv1, L1, by have := H1.out.1; rwa [List.take_length] at this, H1.out.2.1, H1.out.2.2⟩
  · rw [hmm] at i3 hmr
    obtain ⟨g0, o0, cs0, rfl, _, _, hcs0, hcl0⟩ := hmr.get 0 l0 rfl
    cases hcs0
    have m0 := hcl0 0 _ rfl
    rw [Nat.zero_mul, Nat.add_zero] at m0
    have hb0 := hwf l0 (by rw [hmm]; simp)
    have hb1 := hm.2 l0 (by rw [hmm]; simp)
    have hlen : (l0 :: r0).length = 1 := by have := hm.1; rw [hmm] at this; simp at this ⊢; omega
    rw [hlen] at i3
    obtain ⟨p, hp⟩ : ∃ p : Nat, l0.min = p := ⟨l0.min.toNat, by omega⟩
    have hp1 : p ≤ 1 := by omega
    rw [hp] at m0
    obtain ⟨NN, hNN⟩ : ∃ q : Nat, p * 65536 = q := ⟨_, rfl⟩
    have HMC := Lib.hid (show memC M = List.replicate NN 0 by unfold memC; rw [hmm, ← hNN]; simp [hp])
    obtain ⟨L3, h3, ro3, hk3'⟩ := H.out.mem0 NN (by omega)
    have H2 := Lib.hid (show RoomR w S L u iB M mc bv gv ev dv [.int .i64 0] bl { I with mem := memC M, tabs := tabsC (M.tabs.take 0) } _ from ⟨_, tv, L3, by rw [HMC.out, in_eq2 _ HI.out.2]; exact h3, ro3, fun q a b c d => hk3' q c d⟩)
    have qd : decide ((1 : Int) < (p : Int)) = false := decide_eq_false (by omega)
    have qd' : decide ((p : Int) > 1) = false := decide_eq_false (by omega)
    have qd2 : decide (1 < p) = false := decide_eq_false (by omega)
    have qw : IntKind.i64.wrap (p : Int) = p := IntWalk.i64_in _ (by omega)
    have qw2 : IntKind.i64.wrap ((p : Int) * 65536) = ((NN : Nat) : Int) := by rw [IntWalk.i64_in _ (by omega), ← hNN]; omega
    have hib : iB < w.heap.size := World.block_lt_of_cell? _ _ i2
    have hib2 : iB ≠ w.heap.size := by omega
    have mkE := run_mk w 34 5 (.int .u8 0) 1 Tryz.underlying34 infoU8 rfl (by omega) NN (by omega) .i64 .i64
    clear hNN hmr hk3 hwf hm hmm hcl0 hb0 hb1 hlen hp hp1 h3 ro3 hk3'
    rename_i y1 y2
    clear y1 y2
    go_enter Tryz.func110, Tryz.ntmps110
    go_wp2_with fail
    go_loopw [45] (fun i wr => ∃ n : Nat, n ≤ M.tabs.length ∧ i = .int .i64 n ∧ RoomR w S L u iB M mc bv gv ev dv [.int .i64 0] bl { I with mem := memC M, tabs := tabsC (M.tabs.take n) } wr) (fun i _ => M.tabs.length - (intOf i).toNat)
    case atStart => exact ⟨0, Nat.zero_le _, rfl, by first | exact H2.out | (rw [← World.setCell_alloc_past _ _ _ _ hib]; exact H2.out)⟩
    case round =>
      obtain ⟨n, hn, rfl, mv1, tv1, L1, h1, ro1, hk1⟩ := hrel
      by_cases hlt : n < M.tabs.length
      · have hx : M.tabs[n]? = some M.tabs[n] := List.getElem?_eq_getElem hlt
        generalize M.tabs[n] = x at hx
        have htr1 := HT.out.1.mono ro1 (fun _ h => h) (fun _ _ h => h)
        obtain ⟨g, o, cs, rfl, hSg, _, ⟨ty, rfl⟩, hcs⟩ := htr1.get n x hx
        have k0 := hcs 0 _ rfl
        have k1 := hcs 1 _ rfl
        have k2 := hcs 2 _ rfl
        have k3 := hcs 3 _ rfl
        rw [Nat.add_zero] at k0
        have hmx := HT.out.2.1.2 x (List.mem_of_getElem? hx)
        have hwx := HT.out.2.2.lims x (List.mem_append_right _ (List.mem_of_getElem? hx))
        obtain ⟨q, hq⟩ : ∃ q : Nat, x.min = q := ⟨x.min.toNat, by omega⟩
        rw [hq] at k1
        have hq1 : q ≤ 64 := by omega
        have e1 : decide ((64 : Int) < (q : Int)) = false := decide_eq_false (by omega)
        have e2 : decide ((q : Int) > 64) = false := decide_eq_false (by omega)
        have e3 : decide (64 < q) = false := decide_eq_false (by omega)
        have hi : IntKind.i64.wrap ((n : Int) + 1) = (n : Int) + 1 := IntWalk.i64_in _ (by have := HT.out.2.1.1; omega)
        have i1 : decide ((n : Int) < (M.tabs.length : Int)) = true := decide_eq_true (by omega)
        have bel2 : Below wr.heap.size wr (wr.alloc (.cells #[.int .u8 ty, .int .u32 q, .int .u32 x.max, .bool x.has] 83)) := (Below.refl _ _).alloc (Nat.le_refl _) _
        have h2 := h1.still bel2
        have hTX := Lib.hid (show tabsC (M.tabs.take (n + 1)) = tabsC (M.tabs.take n) ++ [List.replicate q 0] by rw [List.take_add_one, hx]; simp [tabsC, hq])
        have hTL : (tabsC (M.tabs.take n)).length = n := by simp [tabsC]; omega
        obtain ⟨traws, t1, t2, t3⟩ := h2.tabs
        rw [hTL] at t1
        have hrow := h2.sep.holds _ _ t2
        obtain ⟨A1, m1, k1', rfl, _, _, hxl, _⟩ := Row.rd hrow
        have i15 : (wr.alloc (.cells #[.int .u8 ty, .int .u32 q, .int .u32 x.max, .bool x.has] 83)).cell? ⟨iB, 15, none⟩ = some (.slice A1 m1 k1') := h2.cell 15 _ (h2.tail 2)
        have tB1 : (wr.alloc (.cells #[.int .u8 ty, .int .u32 q, .int .u32 x.max, .bool x.has] 83)).cell? ⟨wr.heap.size, 1, none⟩ = some (.int .u32 q) := by simp
        have hrb : rowBlock (.slice A1 m1 k1') ≠ some wr.heap.size := by
          intro hh
          obtain ⟨traws0, _, b2, _⟩ := h1.tabs
          have := Ck.lt (h1.sep.holds _ _ b2) hh
          omega
        have HX := Lib.hid (And.intro h1 (And.intro ro1 (And.intro hk1 hrb)))
        clear h1 ro1 hk1 htr1 hSg hcs hmx hwx hn hx hrow hxl hrb
        generalize hwb : wr.alloc (.cells #[.int .u8 ty, .int .u32 q, .int .u32 x.max, .bool x.has] 83) = w2 at h2 i15 tB1 bel2
        have i15 := i15
        have HB2 := Lib.hid bel2
        have KEY := Lib.hid (show ∀ w', Below w2.heap.size w2 w' → w'.cell? ⟨iB, 15, none⟩ = some (.slice A1 m1 k1') ∧ w'.cell? ⟨wr.heap.size, 1, none⟩ = some (.int .u32 q) from fun w' hb => ⟨(hb.cell (World.block_lt_of_cell? _ _ i15)).trans i15, (hb.cell (World.block_lt_of_cell? _ _ tB1)).trans tB1⟩)
        have mk2 := run_mk w2.drew 57 26 (.int .u64 0) 8 Tryz.underlying57 infoU64 rfl (by omega) q (by omega) .u32 .u32
        have b3 : Below w2.heap.size w2 (w2.drew.alloc (.cells (Array.replicate q (.int .u64 0)) 26)) := (Below.refl _ _).drew.alloc (Nat.le_refl _) _
        have b4 : Below w2.heap.size w2 ((w2.drew.alloc (.cells (Array.replicate q (.int .u64 0)) 26)).alloc (.cells #[.slice (some ⟨w2.heap.size, 0, none⟩) q q] 57)) := b3.alloc (by simp) _
        have h4 := h2.still b4
        have s3 := (h2.sep.drew).newRow (.tab u n) (Array.replicate q (.int .u64 0)) 26 1 q (by simp) (by simp [maxLen]; omega)
        rw [Array.toList_replicate, ← ints_rep] at s3
        have s4 := s3.alloc (.cells #[.slice (some ⟨w2.heap.size, 0, none⟩) q q] 57)
        have hrow4 := h4.sep.holds _ _ t2
        have RD := Lib.hid (show Rd ((w2.drew.alloc (.cells (Array.replicate q (.int .u64 0)) 26)).alloc (.cells #[.slice (some ⟨w2.heap.size, 0, none⟩) q q] 57)) 1 (some ⟨w2.heap.size + 1, 0, none⟩) 1 [.slice (some ⟨w2.heap.size, 0, none⟩) q q] from ⟨rfl, fun _ => ⟨_, rfl, rfl, fun j u hu => by
          cases j with
          | zero => simp at hu; subst hu; rw [show (Addr.mk (w2.heap.size + 1) 0 none).add 0 = ⟨w2.heap.size + 1, 0, none⟩ by simp [Addr.add], show w2.heap.size + 1 = (w2.drew.alloc (.cells (Array.replicate q (.int .u64 0)) 26)).heap.size by simp]; exact cell_new _ _ _
          | succ j => simp at hu⟩⟩)
        have HBY := Lib.hid (show (traws.length + 1) * 24 ≤ 140737488355328 from by have := HT.out.2.1.1; omega)
        have HO1 := Lib.hid (show ∀ z ∈ [Value.slice (some ⟨w2.heap.size, 0, none⟩) q q], z.oneCell' = true by simp [Value.oneCell'])
        have H4 := Lib.hid (And.intro h4 (And.intro (show Sep _ S (upd L1 (.tab u (tabsC (M.tabs.take n)).length) _) by rw [hTL]; exact s4) (And.intro (show traws.length = (tabsC (M.tabs.take n)).length by rw [hTL]; exact t1) (And.intro t2 (And.intro t3 b4)))))
        have HR4 := Lib.hid hrow4
        clear h2 b3 b4 h4 s3 s4 hrow4 t1 t2 t3 hTL bel2 i2
        rename_i y1 y2
        clear y1 y2
        go_wp2_with fail
        refine wp_region_z (fun w' => w'.cell? ⟨iB, 15, none⟩ = some (.slice A1 m1 k1') ∧ w'.cell? ⟨wr.heap.size, 1, none⟩ = some (.int .u32 q)) (fun j => j == 12 || j == 13 || j == 14 || j == 15) (by kernel_rfl) ?_ (fun hHeld => ?_)
        · first | exact KEY.out _ (Below.refl _ _).drew | exact KEY.out _ ((Below.refl _ _).drew.alloc (Nat.le_refl _) _) | exact KEY.out _ (((Below.refl _ _).drew.alloc (Nat.le_refl _) _).alloc (by simp) _) | exact ⟨c15, ct⟩
        (refine wpZ_take (i := 0) (oi := ⟨some 56, .move (.tmp 0), 191, _, _, none⟩) (v := ?_) rfl (by kernel_rfl) (fun _ _ _ h => h) (by assumption) (Or.inl ⟨by rfl, ?_⟩) ?_; rotate_left 1; · ((intro w hSw; (try dsimp only at hSw); go_split_ands; go_simp) <;> (try with_reducible rfl)))
        try simp only [Act.put, List.setIfInBounds_toArray, List.set_cons_zero, List.set_cons_succ]
        (refine wpZ_take (i := 1) (oi := ⟨some 57, .move (.tmp 0), 191, _, _, none⟩) (v := ?_) rfl (by kernel_rfl) (fun _ _ _ h => h) (by assumption) (Or.inl ⟨by rfl, ?_⟩) ?_; rotate_left 1; · ((intro w hSw; (try dsimp only at hSw); go_split_ands; go_simp) <;> (try with_reducible rfl)))
        try simp only [Act.put, List.setIfInBounds_toArray, List.set_cons_zero, List.set_cons_succ]
        (refine wpZ_take (i := 2) (oi := ⟨some 58, .nilCheck (.tmp 57), 0, _, _, none⟩) (v := ?_) rfl (by kernel_rfl) (fun _ _ _ h => h) (by assumption) (Or.inl ⟨by rfl, ?_⟩) ?_; rotate_left 1; · ((intro w hSw; (try dsimp only at hSw); go_split_ands; go_simp) <;> (try with_reducible rfl)))
        try simp only [Act.put, List.setIfInBounds_toArray, List.set_cons_zero, List.set_cons_succ]
        (refine wpZ_take (i := 3) (oi := ⟨some 59, .fieldAddr 193 (.tmp 58) 0, 0, _, _, none⟩) (v := ?_) rfl (by kernel_rfl) (fun _ _ _ h => h) (by assumption) (Or.inl ⟨by rfl, ?_⟩) ?_; rotate_left 1; · ((intro w hSw; (try dsimp only at hSw); go_split_ands; go_simp) <;> (try with_reducible rfl)))
        try simp only [Act.put, List.setIfInBounds_toArray, List.set_cons_zero, List.set_cons_succ]
        (refine wpZ_take (i := 4) (oi := ⟨some 60, .fieldAddr 67 (.tmp 59) 3, 0, _, _, none⟩) (v := ?_) rfl (by kernel_rfl) (fun _ _ _ h => h) (by assumption) (Or.inl ⟨by rfl, ?_⟩) ?_; rotate_left 1; · ((intro w hSw; (try dsimp only at hSw); go_split_ands; go_simp) <;> (try with_reducible rfl)))
        try simp only [Act.put, List.setIfInBounds_toArray, List.set_cons_zero, List.set_cons_succ]
        (refine wpZ_take (i := 5) (oi := ⟨some 61, .load 64 (.tmp 60), 64, _, _, none⟩) (v := ?_) rfl (by kernel_rfl) (fun _ _ _ h => h) (by assumption) (Or.inl ⟨by rfl, ?_⟩) ?_; rotate_left 1; · ((intro w hSw; (try dsimp only at hSw); go_split_ands; go_simp) <;> (try with_reducible rfl)))
        try simp only [Act.put, List.setIfInBounds_toArray, List.set_cons_zero, List.set_cons_succ]
        (refine wpZ_take (i := 6) (oi := ⟨some 62, .fieldAddr 83 (.tmp 4) 1, 0, _, _, none⟩) (v := ?_) rfl (by kernel_rfl) (fun _ _ _ h => h) (by assumption) (Or.inl ⟨by rfl, ?_⟩) ?_; rotate_left 1; · ((intro w hSw; (try dsimp only at hSw); go_split_ands; go_simp) <;> (try with_reducible rfl)))
        try simp only [Act.put, List.setIfInBounds_toArray, List.set_cons_zero, List.set_cons_succ]
        (refine wpZ_take (i := 7) (oi := ⟨some 63, .fieldAddr 42 (.tmp 62) 0, 0, _, _, none⟩) (v := ?_) rfl (by kernel_rfl) (fun _ _ _ h => h) (by assumption) (Or.inl ⟨by rfl, ?_⟩) ?_; rotate_left 1; · ((intro w hSw; (try dsimp only at hSw); go_split_ands; go_simp) <;> (try with_reducible rfl)))
        try simp only [Act.put, List.setIfInBounds_toArray, List.set_cons_zero, List.set_cons_succ]
        (refine wpZ_take (i := 8) (oi := ⟨some 64, .load 25 (.tmp 63), 25, _, _, none⟩) (v := ?_) rfl (by kernel_rfl) (fun _ _ _ h => h) (by assumption) (Or.inl ⟨by rfl, ?_⟩) ?_; rotate_left 1; · ((intro w hSw; (try dsimp only at hSw); go_split_ands; go_simp) <;> (try with_reducible rfl)))
        try simp only [Act.put, List.setIfInBounds_toArray, List.set_cons_zero, List.set_cons_succ]
        refine wpZ_one (i := 9) (oi := ⟨some 65, .makeSlice 57 (.tmp 64) (.tmp 64), 57, _, _, none⟩) rfl (by kernel_rfl) (fun K hK => ?_)
        go_simp
        refine hK.out _ _ (fun _ => by (first | exact KEY.out _ (Below.refl _ _).drew | exact KEY.out _ ((Below.refl _ _).drew.alloc (Nat.le_refl _) _) | exact KEY.out _ (((Below.refl _ _).drew.alloc (Nat.le_refl _) _).alloc (by simp) _) | exact ⟨c15, ct⟩)) (fun hh => ?_)
        have hHeld := hh rfl
        clear hK K
        try simp only [Act.put, List.setIfInBounds_toArray, List.set_cons_zero, List.set_cons_succ]
        refine wpZ_one (i := 10) (oi := ⟨some 66, .buildSlice 64 1 #[(0, .tmp 65)], 64, _, _, none⟩) rfl (by kernel_rfl) (fun K hK => ?_)
        go_simp
        refine hK.out _ _ (fun _ => by (first | exact KEY.out _ (Below.refl _ _).drew | exact KEY.out _ ((Below.refl _ _).drew.alloc (Nat.le_refl _) _) | exact KEY.out _ (((Below.refl _ _).drew.alloc (Nat.le_refl _) _).alloc (by simp) _) | exact ⟨c15, ct⟩)) (fun hh => ?_)
        have hHeld := hh rfl
        clear hK K
        try simp only [Act.put, List.setIfInBounds_toArray, List.set_cons_zero, List.set_cons_succ]
        refine wpZ_one (i := 11) (oi := ⟨some 67, .call { callee := .builtin .append, args := #[.tmp 61, .tmp 66], argTypes := #[64, 64] }, 64, _, _, none⟩) rfl (by kernel_rfl) (fun K hK => ?_)
        refine step_append_row (by rfl) _ _ _ (by rfl) 57 1 _ 24 Tryz.underlying64 infoRow rfl (by omega) (by omega) (.slice A1 m1 k1') traws (by rfl) (some ⟨w2.heap.size + 1, 0, none⟩) 1 1 [.slice (some ⟨w2.heap.size, 0, none⟩) q q] (by rfl) HR4.out RD.out HO1.out HBY.out ?_; intro B1 m2 c3 w5 hr1 hg1 ha1; obtain ⟨L5, h5, ro5, hk5, c15, z15⟩ := H4.out.1.table H4.out.2.1 H4.out.2.2.1 H4.out.2.2.2.1 H4.out.2.2.2.2.1 hr1.out hg1.out ha1.out; have ct : w5.cell? ⟨wr.heap.size, 1, none⟩ = some (.int .u32 q) := hg1.out.cell (KEY.out _ H4.out.2.2.2.2.2).2 (by simpa using fun e => HX.out.2.2.2 e.symm); have H5 := Lib.hid (And.intro h5 (And.intro ro5 hk5)); clear h5 ro5 hk5 hr1 hg1 ha1
        refine hK.out _ _ (fun _ => by (first | exact KEY.out _ (Below.refl _ _).drew | exact KEY.out _ ((Below.refl _ _).drew.alloc (Nat.le_refl _) _) | exact KEY.out _ (((Below.refl _ _).drew.alloc (Nat.le_refl _) _).alloc (by simp) _) | exact ⟨c15, ct⟩)) (fun hh => ?_)
        have hHeld := hh rfl
        clear hK K
        try simp only [Act.put, List.setIfInBounds_toArray, List.set_cons_zero, List.set_cons_succ]
        refine wpZ_one (i := 12) (oi := ⟨some 68, .nilCheck (.tmp 56), 0, _, _, none⟩) rfl (by kernel_rfl) (fun K hK => ?_)
        go_simp
        refine hK.out _ _ (fun h => by simp at h) (fun _ => ?_)
        clear hK K
        try simp only [Act.put, List.setIfInBounds_toArray, List.set_cons_zero, List.set_cons_succ]
        refine wpZ_one (i := 13) (oi := ⟨some 69, .fieldAddr 193 (.tmp 68) 0, 0, _, _, none⟩) rfl (by kernel_rfl) (fun K hK => ?_)
        go_simp
        refine hK.out _ _ (fun h => by simp at h) (fun _ => ?_)
        clear hK K
        try simp only [Act.put, List.setIfInBounds_toArray, List.set_cons_zero, List.set_cons_succ]
        refine wpZ_one (i := 14) (oi := ⟨some 70, .fieldAddr 67 (.tmp 69) 3, 0, _, _, none⟩) rfl (by kernel_rfl) (fun K hK => ?_)
        go_simp
        refine hK.out _ _ (fun h => by simp at h) (fun _ => ?_)
        clear hK K
        try simp only [Act.put, List.setIfInBounds_toArray, List.set_cons_zero, List.set_cons_succ]
        refine wpZ_one (i := 15) (oi := ⟨none, .store 64 (.tmp 70) (.tmp 67), 0, _, _, none⟩) rfl (by kernel_rfl) (fun K hK => ?_)
        go_simp
        refine hK.out _ _ (fun h => by simp at h) (fun _ => ?_)
        clear hK K
        try simp only [Act.put, List.setIfInBounds_toArray, List.set_cons_zero, List.set_cons_succ]
        refine wpZ_done (by kernel_rfl) ?_ _
        go_wp2
        go_roundw
        case rel =>
          refine ⟨n + 1, hlt, by go_num, mv1, .slice B1 m2 c3, L5, by rw [hTX.out]; exact H5.out.1, ?_, fun q a b c d => (H5.out.2.2 q a b d).trans (HX.out.2.2.1 q a b c d)⟩
          have b4 := below_then HB2.out H4.out.2.2.2.2.2
          have r1 : Ro S wr ((w2.drew.alloc (.cells (Array.replicate q (.int .u64 0)) 26)).alloc (.cells #[.slice (some ⟨w2.heap.size, 0, none⟩) q q] 57)) := ⟨⟨b4.size, b4.os, b4.output⟩, fun b hb => b4.block b (HX.out.1.sep.lt b hb)⟩
          exact (HX.out.2.1.trans' r1).trans' H5.out.2.1
        case measure => (simp [intOf]; try omega)
      · obtain rfl : n = M.tabs.length := by omega
        have hd0 : decide ((M.tabs.length : Int) < (M.tabs.length : Int)) = false := decide_eq_false (by omega)
        have H1 := Lib.hid (And.intro h1 (And.intro ro1 hk1))
        clear h1 ro1 hk1 hlt hn
        go_wp2
        go_end0
        exact ⟨rfl, mv1, tv1, L1, by have := H1.out.1; rwa [List.take_length] at this, H1.out.2.1, H1.out.2.2⟩
end Go.Proofs.YtmnebeikafigjaaGreatDoor
/- inst's New: its start. -/
set_option linter.unusedVariables false
set_option linter.unusedSimpArgs false
namespace Go.Proofs.YtmnebeikafigjaaGreatDoor
open Go.RowKit Go.Sep Go.St
variable {w : World} {S : Nat → Prop} {L : Key → Option Ck} {u iB : Nat} {M : Mo} {mc : List Value} {bv mv tv gv ev dv : Value} {er : List Value} {bl : List Es} {I : In}
/-- A module's value, cell by cell. -/
structure Mf (M : Mo) (mc : List Value) (tA fA bA mA gA xA eA cA dA : Option Addr) (tc fc bc mk gc xn xc ec cc dc : Nat) (st : Bool) (sn : Int) (cs : Bool) (cn : Int) : Prop where
  eq : mc = [.slice tA M.types.length tc, .slice fA M.funcs.length fc, .slice bA M.tabs.length bc, .slice mA M.mems.length mk, .slice gA M.globs.length gc, .slice xA xn xc, .bool st, .int .u32 sn, .slice eA M.elems.length ec, .bool cs, .int .u32 cn, .slice cA M.codes.length cc, .slice dA M.datas.length dc]
structure Mx (mc : List Value) (xA : Option Addr) (xn xc : Nat) (st : Bool) (sn : Int) (cs : Bool) (cn : Int) : Prop where
  ex : mc[5]? = some (.slice xA xn xc)
  st : mc[6]? = some (.bool st)
  sn : mc[7]? = some (.int .u32 sn)
  cs : mc[9]? = some (.bool cs)
  cn : mc[10]? = some (.int .u32 cn)
theorem list13 {mc : List Value} (h : mc.length = 13) {v0 v1 v2 v3 v4 v5 v6 v7 v8 v9 v10 v11 v12 : Value} (h0 : mc[0]? = some v0) (h1 : mc[1]? = some v1) (h2 : mc[2]? = some v2) (h3 : mc[3]? = some v3) (h4 : mc[4]? = some v4) (h5 : mc[5]? = some v5) (h6 : mc[6]? = some v6) (h7 : mc[7]? = some v7) (h8 : mc[8]? = some v8) (h9 : mc[9]? = some v9) (h10 : mc[10]? = some v10) (h11 : mc[11]? = some v11) (h12 : mc[12]? = some v12) :
    mc = [v0, v1, v2, v3, v4, v5, v6, v7, v8, v9, v10, v11, v12] := by
  apply List.ext_getElem?
  intro i
  rcases (by omega : i = 0 ∨ i = 1 ∨ i = 2 ∨ i = 3 ∨ i = 4 ∨ i = 5 ∨ i = 6 ∨ i = 7 ∨ i = 8 ∨ i = 9 ∨ i = 10 ∨ i = 11 ∨ i = 12 ∨ 13 ≤ i) with rfl | rfl | rfl | rfl | rfl | rfl | rfl | rfl | rfl | rfl | rfl | rfl | rfl | hi
  all_goals first | (rw [h0]; rfl) | (rw [h1]; rfl) | (rw [h2]; rfl) | (rw [h3]; rfl) | (rw [h4]; rfl) | (rw [h5]; rfl) | (rw [h6]; rfl) | (rw [h7]; rfl) | (rw [h8]; rfl) | (rw [h9]; rfl) | (rw [h10]; rfl) | (rw [h11]; rfl) | (rw [h12]; rfl) | (rw [List.getElem?_eq_none (by omega), List.getElem?_eq_none (by simpa using hi)])
theorem ModR.form (h : ModR w S M mc) {xA : Option Addr} {xn xc : Nat} {st : Bool} {sn : Int} {cs : Bool} {cn : Int} (hx : Mx mc xA xn xc st sn cs cn) :
    ∃ tA fA bA mA gA eA cA dA tc fc bc mk gc ec cc dc, Mf M mc tA fA bA mA gA xA eA cA dA tc fc bc mk gc xn xc ec cc dc st sn cs cn := by
  obtain ⟨hl, ⟨v0, a0, ⟨tA, tc, rfl, _⟩⟩, ⟨v1, a1, ⟨fA, fc, rfl, _⟩⟩, ⟨v2, a2, ⟨bA, bc, rfl, _⟩⟩, ⟨v3, a3, ⟨mA, mk, rfl, _⟩⟩, ⟨v4, a4, ⟨gA, gc, rfl, _⟩⟩, ⟨v8, a8, ⟨eA, ec, rfl, _⟩⟩, ⟨v11, a11, ⟨cA, cc, rfl, _⟩⟩, ⟨v12, a12, ⟨dA, dc, rfl, _⟩⟩⟩ := h
  exact ⟨tA, fA, bA, mA, gA, eA, cA, dA, tc, fc, bc, mk, gc, ec, cc, dc, ⟨list13 hl a0 a1 a2 a3 a4 hx.ex hx.st hx.sn a8 hx.cs hx.cn a11 a12⟩⟩
def inst0 (M : Mo) : In := { blocks := [], mem := [], tabs := [], glo := [], els := List.replicate M.elems.length false, das := List.replicate M.datas.length false }
/-- The maker as it begins: its rows in one order or the other. -/
theorem mkr_start (hs : Sep w S L) (hm : ModR w S M mc) (hw : Wf M) (k0 : L .mach = none) (k1 : L (.cfg u) = none) {w1 : World} (q : Below w.heap.size w w1) (ea : Bool) :
    ∀ (ev dv : Value) (w2 : World), (ea = true ∧ ev = .slice (some ⟨w1.heap.size, 0, none⟩) M.elems.length M.elems.length ∧ dv = .slice (some ⟨w1.heap.size + 1, 0, none⟩) M.datas.length M.datas.length ∧ w2 = (w1.alloc (.cells (Array.replicate M.elems.length (.bool false)) 4)).alloc (.cells (Array.replicate M.datas.length (.bool false)) 4) ∨
      ea = false ∧ ev = .slice (some ⟨w1.heap.size + 1, 0, none⟩) M.elems.length M.elems.length ∧ dv = .slice (some ⟨w1.heap.size, 0, none⟩) M.datas.length M.datas.length ∧ w2 = (w1.alloc (.cells (Array.replicate M.datas.length (.bool false)) 4)).alloc (.cells (Array.replicate M.elems.length (.bool false)) 4)) →
    ∃ L', Mkr (w2.alloc (.cells (mc ++ [.slice none 0 0, .slice none 0 0, .slice none 0 0, .slice none 0 0, ev, dv, .int .i64 0]).toArray 193)) S L' u w2.heap.size M mc (.slice none 0 0) (.slice none 0 0) (.slice none 0 0) (.slice none 0 0) ev dv [.int .i64 0] [] (inst0 M) ∧
      Ro S w (w2.alloc (.cells (mc ++ [.slice none 0 0, .slice none 0 0, .slice none 0 0, .slice none 0 0, ev, dv, .int .i64 0]).toArray 193)) ∧ ∀ q, q.own ≠ some u → (q ≠ .tmp 3) → L' q = L q := by
  intro ev dv w2 hor
  have ro1 : Ro S w w1 := ⟨⟨q.size, q.os, q.output⟩, fun b hb => q.block b (hs.lt b hb)⟩
  have s1 := hs.still q.size q.block
  obtain ⟨L2, s2, ro2, e2, d2, o2⟩ : ∃ L2, Sep w2 S L2 ∧ Ro S w1 w2 ∧ L2 (.els u) = some (.rw 4 1 ev (bools (List.replicate M.elems.length false))) ∧ L2 (.das u) = some (.rw 4 1 dv (bools (List.replicate M.datas.length false))) ∧ ∀ q, q ≠ .els u → q ≠ .das u → L2 q = L q := by
    have he : M.elems.length ≤ maxLen := by have := hw.elems.1; simp [maxLen]; omega
    have hd : M.datas.length ≤ maxLen := by have := hw.datas.1; simp [maxLen]; omega
    rcases hor with ⟨_, rfl, rfl, rfl⟩ | ⟨_, rfl, rfl, rfl⟩
    · have a := s1.newRow (.els u) (Array.replicate M.elems.length (.bool false)) 4 1 M.elems.length (by simp) he
      have b := a.newRow (.das u) (Array.replicate M.datas.length (.bool false)) 4 1 M.datas.length (by simp) hd
      rw [Array.toList_replicate, Array.toList_replicate, ← bools_rep, ← bools_rep, show (w1.alloc (.cells (Array.replicate M.elems.length (.bool false)) 4)).heap.size = w1.heap.size + 1 by simp] at b
      exact ⟨_, b, (((Still.refl w1).alloc _).alloc _).ro s1.lt, by rw [upd_other _ _ (by simp), upd_same], by rw [upd_same], fun q x y => by rw [upd_other _ _ y, upd_other _ _ x]⟩
    · have a := s1.newRow (.das u) (Array.replicate M.datas.length (.bool false)) 4 1 M.datas.length (by simp) hd
      have b := a.newRow (.els u) (Array.replicate M.elems.length (.bool false)) 4 1 M.elems.length (by simp) he
      rw [Array.toList_replicate, Array.toList_replicate, ← bools_rep, ← bools_rep, show (w1.alloc (.cells (Array.replicate M.datas.length (.bool false)) 4)).heap.size = w1.heap.size + 1 by simp] at b
      exact ⟨_, b, (((Still.refl w1).alloc _).alloc _).ro s1.lt, by rw [upd_same], by rw [upd_other _ _ (by simp), upd_same], fun q x y => by rw [upd_other _ _ x, upd_other _ _ y]⟩
  have s3 := ((((Go.Sep.Sep.del s2 (.ins u)).nilRow (.tmp 3) 147 1 none).nilRow (.mem u) 5 1 none).nilRow (.tbs u) 57 1 none).nilRow (.glo u) 26 1 none
  have s4 := s3.new (.ins u) (mc ++ [.slice none 0 0, .slice none 0 0, .slice none 0 0, .slice none 0 0, ev, dv, .int .i64 0]).toArray 193 (by rw [upd_other _ _ (by simp), upd_other _ _ (by simp), upd_other _ _ (by simp), upd_other _ _ (by simp), del_same])
  have ro3 : Ro S w2 (w2.alloc (.cells (mc ++ [.slice none 0 0, .slice none 0 0, .slice none 0 0, .slice none 0 0, ev, dv, .int .i64 0]).toArray 193)) := ((Still.refl w2).alloc _).ro s2.lt
  have ro := (ro1.trans' ro2).trans' ro3
  refine ⟨_, ⟨s4, ?_, ?_, by rw [upd_same], hm.mono ro (fun _ h => h), ⟨[], ?_, rfl, fun k r es a => by simp at a⟩, ?_, ⟨[], rfl, ?_, fun k l v a => by simp [inst0] at a⟩, ?_, ?_, ?_, hw⟩, ro, ?_⟩
  all_goals first
    | (rw [upd_other _ _ (by simp), upd_other _ _ (by simp), upd_other _ _ (by simp), upd_other _ _ (by simp), upd_other _ _ (by simp), del_other _ (by simp)]; first | exact e2 | exact d2 | exact (o2 _ (by simp) (by simp)).trans k0 | exact (o2 _ (by simp) (by simp)).trans k1)
    | (simp [upd, inst0, ints]; done)
    | skip
  intro q h1 h2
  have n : ∀ k : Key, k.own = some u → q ≠ k := fun k hk e => h1 (e ▸ hk)
  rw [upd_other _ _ (n _ rfl), upd_other _ _ (n _ rfl), upd_other _ _ (n _ rfl), upd_other _ _ (n _ rfl), upd_other _ _ h2, del_other _ (n _ rfl), o2 _ (n _ rfl) (n _ rfl)]
end Go.Proofs.YtmnebeikafigjaaGreatDoor
/- inst's New: its globals, its end. -/
set_option linter.unusedVariables false
set_option linter.unusedSimpArgs false
namespace Go.Proofs.YtmnebeikafigjaaGreatDoor
open Go.RowKit Go.Sep Go.St
variable {w : World} {S : Nat → Prop} {L : Key → Option Ck} {u iB : Nat} {M : Mo} {mc : List Value} {bv mv tv gv ev dv : Value} {er : List Value} {bl : List Es} {I : In}
theorem Mkr.glob {w1 : World} {v1 : Value} {x : Int} (h : Mkr w S L u iB M mc bv mv tv gv ev dv er bl I) (hr : Row w1 26 1 v1 (ints .u64 (I.glo ++ [x]))) (hg : w.grownBy w1 (rowBlock gv)) (ha : rowBlock v1 = rowBlock gv ∨ ∃ k, rowBlock v1 = some k ∧ w.heap.size ≤ k) :
    ∃ L', Mkr (w1.setCell ⟨iB, 16, none⟩ v1) S L' u iB M mc bv mv tv v1 ev dv er bl { I with glo := I.glo ++ [x] } ∧ Ro S w (w1.setCell ⟨iB, 16, none⟩ v1) ∧ (∀ q, q ≠ .glo u → q ≠ .ins u → L' q = L q) ∧ w1.cell? ⟨iB, 16, none⟩ = some gv ∧ w1.frozen? ⟨iB, 16, none⟩ = false := by
  obtain ⟨s1, r1⟩ := h.sep.grow h.glo hr hg ha
  have hI : upd L (.glo u) (.rw 26 1 v1 (ints .u64 (I.glo ++ [x]))) (.ins u) = some (.cl iB 0 (mc ++ (bv :: mv :: tv :: gv :: ev :: dv :: er))) := by rw [upd_other _ _ (by simp)]; exact h.ins
  have s2 := s1.set0 hI 16 (by simp [h.mod.len]; omega) v1
  have r2 := r1.trans' (s1.ro_setCell hI 16 v1)
  have hc := h.cell 16 gv (h.tail 3)
  have cl := h.sep.grown_cell h.glo hg h.ins ⟨iB, 16, none⟩ rfl
  rw [set_tail h.mod.len _ 3] at s2
  obtain ⟨raws, q1, q2, q3⟩ := h.bls
  obtain ⟨traws, t1, t2, t3⟩ := h.tabs
  have o : ∀ q : Key, q ≠ .glo u → q ≠ .ins u → upd (upd L (.glo u) (.rw 26 1 v1 (ints .u64 (I.glo ++ [x])))) (.ins u) (.cl iB 0 (mc ++ (bv :: mv :: tv :: gv :: ev :: dv :: er).set 3 v1)) q = L q := fun q a b => by rw [upd_other _ _ b, upd_other _ _ a]
  refine ⟨_, ⟨s2, (o _ (by simp) (by simp)).trans h.mach, (o _ (by simp) (by simp)).trans h.cfg, upd_same _ _ _, h.mod.mono r2 (fun _ h => h), ⟨raws, (o _ (by simp) (by simp)).trans q1, q2, fun k r es' a c => ?_⟩, (o _ (by simp) (by simp)).trans h.mem,
    ⟨traws, t1, (o _ (by simp) (by simp)).trans t2, fun k l v a b => (o _ (by simp) (by simp)).trans (t3 k l v a b)⟩, by rw [upd_other _ _ (by simp), upd_same], (o _ (by simp) (by simp)).trans h.els, (o _ (by simp) (by simp)).trans h.das, h.wf⟩, r2, o, cl.1.trans hc, cl.2.trans (h.sep.frozen h.ins 16)⟩
  obtain ⟨bb, e, hbb, hmm⟩ := q3 k r es' a c
  exact ⟨bb, e, hbb, hmm.move (r2.2 _ hbb)⟩
/-- A chunk's end is let go. -/
theorem _root_.Go.Sep.Sep.shrink {κ : Type} {w : World} {S : Nat → Prop} {L : κ → Option Ck} (h : Sep w S L) {k : κ} {b o : Nat} {vs ws : List Value} (e : L k = some (.cl b o (vs ++ ws))) : Sep w S (upd L k (.cl b o vs)) := by
  have ap : ∀ k' c', k' ≠ k → L k' = some c' → (Ck.cl b o vs).apart c' := by
    intro k' c' hne e'
    have := h.apart k k' _ _ (Ne.symm hne) e e'
    cases c' with
    | cl b' o' vs' =>
      intro hb
      have := this hb
      simp at this
      omega
    | rw e2 sz v xs => exact this
  refine ⟨fun q c hq => ?_, fun q q' c c' hne hq hq' => ?_, fun q c b' hq hb => ?_, h.lt⟩
  · by_cases hk : q = k
    · subst hk
      rw [upd_same] at hq
      cases hq
      obtain ⟨arr, t, h1, h2⟩ := h.cells e
      exact ⟨arr, t, h1, fun j v hv => h2 j v (by rw [List.getElem?_append_left (List.getElem?_eq_some_iff.1 hv).1]; exact hv)⟩
    · rw [upd_other _ _ hk] at hq
      exact h.holds q c hq
  · by_cases hk : q = k
    · subst hk
      rw [upd_same] at hq
      cases hq
      rw [upd_other _ _ (Ne.symm hne)] at hq'
      exact ap q' c' (Ne.symm hne) hq'
    · rw [upd_other _ _ hk] at hq
      by_cases hk' : q' = k
      · subst hk'
        rw [upd_same] at hq'
        cases hq'
        exact Ck.apart_symm (ap q c hk hq)
      · rw [upd_other _ _ hk'] at hq'
        exact h.apart q q' c c' hne hq hq'
  · by_cases hk : q = k
    · subst hk
      rw [upd_same] at hq
      cases hq
      exact h.ro q _ b' e hb
    · rw [upd_other _ _ hk] at hq
      exact h.ro q c b' hq hb
/-- An instance with its module's cells told. -/
structure Sm (w : World) (S : Nat → Prop) (L : Key → Option Ck) (u iB : Nat) (M : Mo) (mc : List Value) (I : In) : Prop where
  si : Si w S L u iB M I
  ins : ∃ r, L (.ins u) = some (.cl iB 0 (mc ++ r)) ∧ r.length = 6
theorem Mkr.done (h : Mkr w S L u iB M mc bv mv tv gv ev dv er bl I) : ∃ S' L', Sm w S' L' u iB M mc { I with blocks := bl.map getE } ∧ (∀ b, S b → S' b) ∧ ∀ q, q ≠ .tmp 3 → q ≠ .ins u → L' q = L q := by
  obtain ⟨raws, r1, r2, r3⟩ := h.bls
  obtain ⟨A, n, c, rfl, hx, hA, hnc, hcm, hr⟩ := h.sep.holds _ _ r1
  have e7 : mc ++ (Value.slice A n c :: mv :: tv :: gv :: ev :: dv :: er) = (mc ++ [.slice A n c, mv, tv, gv, ev, dv]) ++ er := by simp
  have s1 := h.sep.shrink (k := .ins u) (by rw [← e7]; exact h.ins)
  have s2 := s1.del (.tmp 3)
  have r1' : upd L (.ins u) (.cl iB 0 (mc ++ [.slice A n c, mv, tv, gv, ev, dv])) (.tmp 3) = some (.rw 147 1 (.slice A n c) raws) := by rw [upd_other _ _ (by simp)]; exact r1
  have s3 : Sep w (fun b => S b ∨ rowBlock (.slice A n c) = some b) (Go.Sep.del (upd L (.ins u) (.cl iB 0 (mc ++ [.slice A n c, mv, tv, gv, ev, dv]))) (.tmp 3)) := s2.more (fun k ck b e1 e2 hb => by
    rcases hb with hb | hb
    · exact s2.ro k ck b e1 e2 hb
    · have hk : k ≠ .tmp 3 := by rintro rfl; rw [del_same] at e1; cases e1
      rw [del_other _ hk] at e1
      have hap := s1.apart (.tmp 3) k _ _ (Ne.symm hk) r1' e1
      cases ck with
      | cl b' o' vs' => exact hap b hb e2
      | rw e9 sz v xs => exact hap b hb e2) (fun b hb => by
    rcases hb with hb | hb
    · exact h.sep.lt b hb
    · exact Ck.lt (h.sep.holds _ _ r1) hb)
  have o : ∀ q, q ≠ .tmp 3 → q ≠ .ins u → Go.Sep.del (upd L (.ins u) (.cl iB 0 (mc ++ [.slice A n c, mv, tv, gv, ev, dv]))) (.tmp 3) q = L q := fun q a b => by rw [del_other _ a, upd_other _ _ b]
  have hins : Go.Sep.del (upd L (.ins u) (.cl iB 0 (mc ++ [.slice A n c, mv, tv, gv, ev, dv]))) (.tmp 3) (.ins u) = some (.cl iB 0 (mc ++ [.slice A n c, mv, tv, gv, ev, dv])) := by rw [del_other _ (by simp), upd_same]
  obtain ⟨traws, t1, t2, t3⟩ := h.tabs
  refine ⟨_, _, ⟨⟨s3, (o _ (by simp) (by simp)).trans h.mach, (o _ (by simp) (by simp)).trans h.cfg, ⟨mc, .slice A n c, mv, tv, gv, ev, dv, hins, h.mod.mono (Ro.refl _ _) (fun b hb => .inl hb), ?_, (o _ (by simp) (by simp)).trans h.mem, ⟨traws, t1, (o _ (by simp) (by simp)).trans t2, fun k l v a b => (o _ (by simp) (by simp)).trans (t3 k l v a b)⟩, (o _ (by simp) (by simp)).trans h.glo, (o _ (by simp) (by simp)).trans h.els, (o _ (by simp) (by simp)).trans h.das⟩, h.wf⟩, _, hins, rfl⟩, fun b hb => .inl hb, o⟩
  have hn : n = (bl.map getE).length := by rw [List.length_map, ← r2, hx, Nat.mul_one]
  show RdL w _ 1 _ _ (bl.map getE)
  refine ⟨A, c, by rw [hn], by omega, by omega, fun hp => ?_, fun hAn => hA hAn⟩
  obtain ⟨g, cur, rfl, hg, hcs, htk⟩ := hr (by omega)
  refine ⟨g, 0, rfl, .inr (by simp [rowBlock]; omega), fun k f hf => ?_⟩
  rw [List.getElem?_map] at hf
  cases hes : bl[k]? with
  | none => rw [hes] at hf; cases hf
  | some es =>
    rw [hes] at hf
    cases hf
    have hkl : k < raws.length := by rw [r2]; exact (List.getElem?_eq_some_iff.1 hes).1
    obtain ⟨rk, e1⟩ : ∃ rk, raws[k]? = some rk := ⟨_, List.getElem?_eq_getElem hkl⟩
    obtain ⟨b, e, hb, hm⟩ := r3 k _ es e1 hes
    refine ⟨[rk], rfl, ⟨b, by rw [e], .inl hb, fun w' q q0 q1 hq => ?_⟩, fun j v hj => ?_⟩
    · exact (hm.move hq).lookOk q ⟨by omega, q1⟩
    · cases j with
      | zero =>
        cases hj
        have : cur.toList[k]? = some rk := by
          rw [← htk, List.getElem?_take] at e1
          split at e1
          · exact e1
          · cases e1
        simp only [World.cell?, hg]
        simpa using this
      | succ j => simp at hj
end Go.Proofs.YtmnebeikafigjaaGreatDoor
