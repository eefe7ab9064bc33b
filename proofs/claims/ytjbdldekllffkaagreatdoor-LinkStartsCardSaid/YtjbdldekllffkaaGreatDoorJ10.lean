/- Lemmas of the walk, part 10. -/
import Derived.Test.YtjbdldekllffkaaGreatDoorJ9
import Derived.KernelRfl
/- The plain machine keeps what One asks for. -/
set_option linter.unusedVariables false
namespace Go.Proofs.YtjbdldekllffkaaGreatDoor
open Go.St
structure LbInv (l : Lb) : Prop where
  to : -1000000 < l.to ∧ l.to < 1000000
  ar : -4611686018427387904 < l.ar ∧ l.ar < 4611686018427387904
structure FrInv (M : Mo) (nb : Nat) (K : Nat) (f : Fr) : Prop where
  fn : 0 ≤ f.fn ∧ f.fn < 4294967296
  fun_ : ∃ t, functionM M nb f.fn = some t
  at_ : -1000000000 < f.at_ ∧ f.at_ < 1000000000
  ar : -4611686018427387904 < f.ar ∧ f.ar < 4611686018427387904
  lab : ∀ l ∈ f.lab, LbInv l
  ll : f.lab.length ≤ K
  loc : U64 f.loc
structure CInv (M : Mo) (nb : Nat) (K : Nat) (C : Cf) : Prop where
  st : C.st.length ≤ K
  u : U64 C.st
  len : C.frs.length ≤ 1000000
  frs : ∀ f ∈ C.frs, FrInv M nb K f
variable {M : Mo} {nb K : Nat} {C C1 : Cf} {f : Fr}
theorem FrInv.mono {K' : Nat} (h : FrInv M nb K f) (hK : K ≤ K') : FrInv M nb K' f := ⟨h.fn, h.fun_, h.at_, h.ar, h.lab, Nat.le_trans h.ll hK, h.loc⟩
theorem CInv.mono {K' : Nat} (h : CInv M nb K C) (hK : K ≤ K') : CInv M nb K' C := ⟨Nat.le_trans h.st hK, h.u, h.len, fun f hf => (h.frs f hf).mono hK⟩
theorem cinv_ends (e : Int) : CInv M nb K (endsC e) := ⟨by simp [endsC], fun x hx => by simp [endsC] at hx, by simp [endsC], fun f hf => by simp [endsC] at hf⟩
theorem cinv_pops {n : Int} {l : List Int} (h : CInv M nb K C) (hp : popsC C n = some (l, C1)) : CInv M nb K C1 ∧ U64 l ∧ C1.frs = C.frs := by
  obtain ⟨_, _, rfl, rfl⟩ := popsC_some hp
  exact ⟨⟨by simp only [List.length_take]; have := h.st; omega, fun x hx => h.u x (List.mem_of_mem_take hx), h.len, h.frs⟩, fun x hx => h.u x (List.mem_of_mem_drop hx), rfl⟩
theorem cinv_lands {n ht : Int} (h : CInv M nb K C) (hr : landsC C n ht = some C1) : CInv M nb K C1 ∧ C1.frs = C.frs := by
  unfold landsC at hr
  split at hr
  · cases hr
  · rename_i l C' hp
    obtain ⟨h1, hl, hf⟩ := cinv_pops h hp
    obtain ⟨hn0, hn1, el, eC⟩ := popsC_some hp
    split at hr
    · cases hr
    · injection hr with hr
      subst hr
      refine ⟨⟨?_, ?_, by rw [← hf] at *; exact h1.len, h1.frs⟩, hf⟩
      · simp only [List.length_append, List.length_take]
        rw [el, eC, List.length_drop]
        simp only [List.length_take]
        have := h.st
        omega
      · intro x hx
        rcases List.mem_append.1 hx with hx | hx
        · exact h1.u x (List.mem_of_mem_take hx)
        · exact hl x hx
theorem cinv_top (h : CInv M nb K C) (hf : FrInv M nb K f) : CInv M nb K (setTop C f) := by
  refine ⟨h.st, h.u, by simp only [setTop, List.length_set]; exact h.len, fun g hg => ?_⟩
  rcases List.mem_or_eq_of_mem_set hg with hg | rfl
  · exact h.frs g hg
  · exact hf
theorem cinv_leave (h : CInv M nb K C) : CInv M nb K (leaveC C f) := by
  unfold leaveC
  split
  · exact cinv_ends _
  · rename_i C' hr
    obtain ⟨h1, hf⟩ := cinv_lands h hr
    split
    · exact ⟨by simp, fun x hx => by simp at hx, by simp, fun g hg => by simp at hg⟩
    · rename_i x r hx
      refine ⟨h1.st, h1.u, ?_, fun g hg => h1.frs g (List.mem_of_mem_take (hx ▸ hg))⟩
      have := congrArg List.length hx
      simp only [List.length_take] at this
      simp only
      rw [← this]
      have := h1.len
      omega
theorem cinv_push {v : Int} (h : CInv M nb K C) (hv : 0 ≤ v ∧ v < 18446744073709551616) : CInv M nb (K + 1) (pushI C v) := by
  refine ⟨by simp only [pushI, List.length_append, List.length_singleton]; have := h.st; omega, fun x hx => ?_, h.len, fun f hf => (h.frs f hf).mono (Nat.le_succ _)⟩
  rcases List.mem_append.1 hx with hx | hx
  · exact h.u x hx
  · rw [List.mem_singleton.1 hx]; exact hv
theorem FrInv.cut (h : FrInv M nb K f) (m : Nat) : FrInv M nb K { f with lab := f.lab.take m } :=
  ⟨h.fn, h.fun_, h.at_, h.ar, fun l hl => h.lab l (List.mem_of_mem_take hl), by simp only [List.length_take]; have := h.ll; omega, h.loc⟩
theorem FrInv.goto (h : FrInv M nb K f) (a : Int) (ha : -1000000000 < a ∧ a < 1000000000) : FrInv M nb K { f with at_ := a } := ⟨h.fn, h.fun_, ha, h.ar, h.lab, h.ll, h.loc⟩
theorem cinv_branch {n : Int} (h : CInv M nb K C) (hf : FrInv M nb K f) : CInv M nb K (branchC M C f n) := by
  unfold branchC
  split
  · exact cinv_ends _
  split
  · exact cinv_leave h
  split
  · exact cinv_ends _
  rename_i l hl
  split
  · exact cinv_ends _
  rename_i C' hr
  obtain ⟨h1, _⟩ := cinv_lands h hr
  have := (hf.lab l (List.mem_of_getElem? hl)).to
  exact cinv_top h1 ((hf.goto (l.to + 1) (by omega)).cut _)
theorem cinv_close (h : CInv M nb K C) (hf : FrInv M nb K f) : CInv M nb K (closeC C f) := by
  unfold closeC
  split
  · exact cinv_ends _
  split
  · exact cinv_leave h
  exact cinv_top h (hf.cut _)
theorem cinv_skip (h : CInv M nb K C) (hf : FrInv M nb K f) : CInv M nb K (skipC C f) := by
  unfold skipC
  split
  · exact cinv_ends _
  rename_i l hl
  split
  · exact cinv_ends _
  have := (hf.lab l (List.mem_of_getElem? hl)).to
  exact cinv_top h ((hf.goto (l.to + 1) (by omega)).cut _)
theorem argsOf_u {ps args : List Int} (h : U64 args) : U64 (argsOf ps args) := by
  intro x hx
  unfold argsOf at hx
  obtain ⟨i, hi⟩ := List.mem_iff_getElem?.1 hx
  rw [List.getElem?_zipWith] at hi
  split at hi
  · rename_i p a hp ha
    injection hi with hi
    have := h a (List.mem_of_getElem? ha)
    rw [← hi]
    split
    · exact low_range a
    · exact this
  · cases hi
theorem cinv_open {fn : Nat} {args : List Int} (hw : Wf M) (h : CInv M nb K C) (hfn : fn < 4294967296) (ha : U64 args) (hK : 1 ≤ K) : CInv M nb K (openC M nb C fn args) := by
  unfold openC
  split
  · exact cinv_ends _
  rename_i hlim
  split
  · rename_i t c ht hc
    split
    · exact cinv_ends _
    refine ⟨h.st, h.u, by simp only [List.length_append, List.length_singleton]; omega, fun g hg => ?_⟩
    rcases List.mem_append.1 hg with hg | hg
    · exact h.frs g hg
    · rw [List.mem_singleton.1 hg]
      obtain ⟨x, _, hx2, _⟩ := functionM_some ht
      have hrs := (hw.ps t (List.mem_of_getElem? hx2)).2.2
      have hb := (hw.body c (List.mem_of_getElem? hc)).1
      refine ⟨⟨by simp, by simp; omega⟩, ⟨t, ht⟩, by simp, by simp; omega, fun l hl => ?_, by simp; omega, fun y hy => ?_⟩
      · rw [List.mem_singleton.1 hl]
        exact ⟨by simp; omega, by simp; omega⟩
      · rcases List.mem_append.1 hy with hy | hy
        · exact argsOf_u ha y hy
        · rw [List.eq_of_mem_replicate hy]; omega
  · exact cinv_ends _
theorem cinv_call {fn : Nat} (hw : Wf M) (h : CInv M nb K C) (hfn : fn < 4294967296) (hK : 1 ≤ K) : CInv M nb K (callC M nb C fn) := by
  unfold callC
  split
  · exact cinv_ends _
  split
  · exact cinv_ends _
  rename_i l C' hp
  obtain ⟨h1, hl, _⟩ := cinv_pops h hp
  exact cinv_open hw h1 hfn hl hK
theorem FrInv.ok (h : FrInv M nb K f) (hK : K ≤ 1000000000) : FrOk f := ⟨h.fn, h.at_, h.ar, Nat.le_trans h.ll hK, fun l hl => ⟨by have := (h.lab l hl).to; omega, (h.lab l hl).ar⟩⟩
structure BkInv (bl : List (Int → Option (Int × Int))) : Prop where
  b : ∀ bf ∈ bl, ∀ a e, bf a = some e → (-1000000 < e.1 ∧ e.1 < 999999) ∧ (-1000000 < e.2 ∧ e.2 < 999999)
theorem signM_r {t : Int} {p r : Nat} (hw : Wf M) (h : signM M t = some (p, r)) : p ≤ 1000 ∧ r ≤ 1000 := by
  unfold signM at h
  split at h
  · cases h; omega
  split at h
  · cases h; omega
  split at h
  · cases h
  · rename_i x hx
    cases h
    exact (hw.ps x (List.mem_of_getElem? hx)).2
theorem cinv_enter2 {x : Ins} {at_ en : Int} {p r : Nat} (h : CInv M nb K C) (hf : FrInv M nb K f) (ha : 0 ≤ at_ ∧ at_ < 1000000) (he : -1000000 < en ∧ en < 1000000) (hp : p ≤ 1000 ∧ r ≤ 1000) : CInv M nb (K + 1) (enter2 C f x at_ en p r) := by
  unfold enter2
  refine cinv_top (h.mono (Nat.le_succ _)) ⟨hf.fn, hf.fun_, hf.at_, hf.ar, fun l hl => ?_, by simp only [List.length_append, List.length_singleton]; have := hf.ll; omega, hf.loc⟩
  rcases List.mem_append.1 hl with hl | hl
  · exact hf.lab l hl
  · rw [List.mem_singleton.1 hl]
    split
    · exact ⟨by simp; omega, by simp; omega⟩
    · exact ⟨by simp; omega, by simp; omega⟩
theorem cinv_enter {x : Ins} {at_ : Int} {bl : List (Int → Option (Int × Int))} {bf : Int → Option (Int × Int)} (hw : Wf M) (hB : BkInv bl) (hbf : bf ∈ bl) (h : CInv M nb K C) (hf : FrInv M nb K f) (ha : 0 ≤ at_ ∧ at_ < 1000000) : CInv M nb (K + 1) (enterC M bf C f x at_) := by
  unfold enterC
  split
  · rename_i el en p r he hs
    have hb := hB.b bf hbf at_ _ he
    have hp := signM_r hw hs
    split
    · split
      · exact cinv_ends _
      · rename_i l C' hpp
        obtain ⟨h1, _, _⟩ := cinv_pops h hpp
        split
        · split
          · exact (cinv_top h1 (hf.goto (en + 1) (by have := hb.2; simp only at this; omega))).mono (Nat.le_succ _)
          · have hf2 := hf.goto (el + 1) (by have := hb.1; simp only at this; omega)
            exact cinv_enter2 (cinv_top h1 hf2) hf2 ha (by have := hb.2; simp only at this; omega) hp
        · exact cinv_enter2 h1 hf ha (by have := hb.2; simp only at this; omega) hp
    · exact cinv_enter2 h hf ha (by have := hb.2; simp only at this; omega) hp
  · exact cinv_ends _
theorem cinv_control {I : In} {x : Ins} {at_ : Int} {r : Cf} (hw : Wf M) (hB : BkInv I.blocks) (hnb : I.blocks.length = nb) (h : CInv M nb K C) (hf : FrInv M nb K f) (hx : Ins.wf x) (ha : 0 ≤ at_ ∧ at_ < 1000000) (hK : 1 ≤ K) (hr : controlC M I C f x at_ = some r) : CInv M nb (K + 1) r := by
  have up : ∀ {c : Cf}, CInv M nb K c → CInv M nb (K + 1) c := fun hc => hc.mono (Nat.le_succ _)
  unfold controlC at hr
  split at hr
  · injection hr with hr; rw [← hr]; exact cinv_ends _
  split at hr
  · injection hr with hr; rw [← hr]; exact up h
  split at hr
  · injection hr with hr
    rw [← hr]
    obtain ⟨t, ht⟩ := hf.fun_
    have hfn : f.fn = ((f.fn.toNat : Nat) : Int) := by have := hf.fn; omega
    rw [hfn] at ht
    obtain ⟨_, _, _, _, h4⟩ := functionM_some ht
    have hb : I.blocks[f.fn.toNat]? = some (I.blocks[f.fn.toNat]'(by omega)) := List.getElem?_eq_getElem _
    rw [blkAt_eq hb]
    exact cinv_enter hw hB (List.getElem_mem _) h hf ha
  split at hr
  · injection hr with hr; rw [← hr]; exact up (cinv_skip h hf)
  split at hr
  · injection hr with hr; rw [← hr]; exact up (cinv_close h hf)
  split at hr
  · injection hr with hr; rw [← hr]; exact up (cinv_branch h hf)
  split at hr
  · injection hr with hr
    rw [← hr]
    split
    · exact cinv_ends _
    · rename_i l C' hpp
      obtain ⟨h1, _, _⟩ := cinv_pops h hpp
      split
      · exact up h1
      · exact up (cinv_branch h1 hf)
  split at hr
  · injection hr with hr
    rw [← hr]
    split
    · exact cinv_ends _
    · rename_i l C' hpp
      obtain ⟨h1, _, _⟩ := cinv_pops h hpp
      exact up (cinv_branch h1 hf)
  split at hr
  · injection hr with hr; rw [← hr]; exact up (cinv_leave h)
  split at hr
  · injection hr with hr
    rw [← hr, hnb]
    obtain ⟨n, hn⟩ := Int.eq_ofNat_of_zero_le hx.a.1
    rw [hn]
    exact up (cinv_call hw h (by have := hx.a.2; omega) hK)
  · cases hr
theorem u64_set {l : List Int} (h : U64 l) (a : Nat) {v : Int} (hv : 0 ≤ v ∧ v < 18446744073709551616) : U64 (l.set a v) := by
  intro x hx
  rcases List.mem_or_eq_of_mem_set hx with hx | rfl
  · exact h x hx
  · exact hv
theorem u64_head {l : List Int} (h : U64 l) : 0 ≤ l.headD 0 ∧ l.headD 0 < 18446744073709551616 := by
  cases l with
  | nil => simp
  | cons a r => exact h a (List.mem_cons_self ..)
theorem cinv_get {l : List Int} {a : Int} (hl : U64 l) (h : CInv M nb K C) : CInv M nb (K + 1) (getL l a C) := by
  unfold getL
  split
  · exact cinv_ends _
  · rename_i v hv
    exact cinv_push h (hl v (List.mem_of_getElem? hv))
theorem cinv_places {I I1 : In} {x : Ins} {r : Cf} (hg : U64 I.glo) (h : CInv M nb K C) (hf : FrInv M nb K f) (hx : Ins.wf x) (hr : placesC I C f x = some (r, I1)) : CInv M nb (K + 1) r ∧ U64 I1.glo ∧ I1.blocks = I.blocks := by
  have up : ∀ {c : Cf}, CInv M nb K c → CInv M nb (K + 1) c := fun hc => hc.mono (Nat.le_succ _)
  unfold placesC at hr
  split at hr
  · obtain ⟨rfl, rfl⟩ := Prod.mk.inj (Option.some.inj hr)
    refine ⟨?_, hg, rfl⟩
    split
    · exact cinv_ends _
    · rename_i l C' hpp
      exact up (cinv_pops h hpp).1
  split at hr
  · obtain ⟨rfl, rfl⟩ := Prod.mk.inj (Option.some.inj hr)
    exact ⟨cinv_get hf.loc h, hg, rfl⟩
  split at hr
  · obtain ⟨rfl, rfl⟩ := Prod.mk.inj (Option.some.inj hr)
    refine ⟨?_, hg, rfl⟩
    split
    · exact cinv_ends _
    · rename_i l C' hpp
      obtain ⟨h1, hl, _⟩ := cinv_pops h hpp
      split
      · have h2 : CInv M nb K (setTop C' { f with loc := f.loc.set x.a.toNat (l.headD 0) }) := cinv_top h1 ⟨hf.fn, hf.fun_, hf.at_, hf.ar, hf.lab, hf.ll, u64_set hf.loc _ (u64_head hl)⟩
        simp only
        split
        · exact cinv_push h2 (u64_head hl)
        · exact up h2
      · exact cinv_ends _
  split at hr
  · obtain ⟨rfl, rfl⟩ := Prod.mk.inj (Option.some.inj hr)
    exact ⟨cinv_get hg h, hg, rfl⟩
  split at hr
  · have hr := Option.some.inj hr
    split at hr
    · obtain ⟨rfl, rfl⟩ := Prod.mk.inj hr
      exact ⟨cinv_ends _, hg, rfl⟩
    · rename_i l C' hpp
      obtain ⟨h1, hl, _⟩ := cinv_pops h hpp
      split at hr
      · obtain ⟨rfl, rfl⟩ := Prod.mk.inj hr
        exact ⟨up h1, u64_set hg _ (u64_head hl), rfl⟩
      · obtain ⟨rfl, rfl⟩ := Prod.mk.inj hr
        exact ⟨cinv_ends _, hg, rfl⟩
  split at hr
  · obtain ⟨rfl, rfl⟩ := Prod.mk.inj (Option.some.inj hr)
    exact ⟨cinv_push h hx.n, hg, rfl⟩
  split at hr
  · obtain ⟨rfl, rfl⟩ := Prod.mk.inj (Option.some.inj hr)
    exact ⟨cinv_push h (by omega), hg, rfl⟩
  split at hr
  · obtain ⟨rfl, rfl⟩ := Prod.mk.inj (Option.some.inj hr)
    refine ⟨?_, hg, rfl⟩
    split
    · exact cinv_ends _
    · rename_i l C' hpp
      exact cinv_push (cinv_pops h hpp).1 (by split <;> omega)
  split at hr
  · obtain ⟨rfl, rfl⟩ := Prod.mk.inj (Option.some.inj hr)
    exact ⟨cinv_push h (by have := hx.a; omega), hg, rfl⟩
  · cases hr
/-- What num gives fits. -/
structure NumU (F : NumFn) : Prop where
  one : ∀ v, 0 ≤ F.one v ∧ F.one v < 18446744073709551616
  two : ∀ a b, 0 ≤ (F.two a b).1 ∧ (F.two a b).1 < 18446744073709551616
theorem cinv_numbers {F : NumFn} (hF : NumU F) (h : CInv M nb K C) : CInv M nb (K + 1) (numbersC F C) := by
  unfold numbersC
  split
  · exact cinv_ends _
  split
  · exact cinv_ends _
  rename_i l C' hpp
  obtain ⟨h1, hl, _⟩ := cinv_pops h hpp
  split
  · exact cinv_push h1 (hF.one _)
  split
  · exact cinv_push h1 (hF.two _ _)
  · exact cinv_ends _
theorem cinv_one {I : In} {x : Ins} {F : NumFn} (hw : Wf M) (hB : BkInv I.blocks) (hnb : I.blocks.length = nb) (hg : U64 I.glo) (h : CInv M nb K C) (hf : FrInv M nb K f) (hx : Ins.wf x) (ha : 0 ≤ f.at_ ∧ f.at_ < 999999) (hK : 1 ≤ K) (hF : NumU F) :
    CInv M nb (K + 1) (oneC M I C f x F).1 ∧ U64 (oneC M I C f x F).2.glo ∧ (oneC M I C f x F).2.blocks = I.blocks := by
  have hf2 := hf.goto (f.at_ + 1) (by omega)
  have h2 : CInv M nb K (setTop C { f with at_ := f.at_ + 1 }) := cinv_top h hf2
  have key : CInv M nb (K + 1) (doC M I (setTop C { f with at_ := f.at_ + 1 }) { f with at_ := f.at_ + 1 } x f.at_ F).1 ∧ U64 (doC M I (setTop C { f with at_ := f.at_ + 1 }) { f with at_ := f.at_ + 1 } x f.at_ F).2.glo ∧ (doC M I (setTop C { f with at_ := f.at_ + 1 }) { f with at_ := f.at_ + 1 } x f.at_ F).2.blocks = I.blocks := by
    unfold doC
    split
    · rename_i r hr
      exact ⟨cinv_control hw hB hnb h2 hf2 hx (by omega) hK hr, hg, rfl⟩
    · split
      · rename_i r hr
        obtain ⟨r1, r2⟩ := r
        exact cinv_places hg h2 hf2 hx hr
      · exact ⟨cinv_numbers hF h2, hg, rfl⟩
  unfold oneC
  simp only
  split
  · exact ⟨cinv_ends _, key.2⟩
  · exact key
/-- A step of the plain machine, its bounds kept. -/
theorem stepOk_of {c : Cf × In} {k : Nat} {cd : Cd} {a : Nat} {x : Ins} {F : NumFn} (hw : Wf M) (hB : BkInv c.2.blocks) (hnb : c.2.blocks.length = nb) (hg : U64 c.2.glo) (h : CInv M nb K c.1) (hK : 1 ≤ K) (hK2 : K ≤ 800000000) (hov : c.1.ov = false)
    (hlen : c.1.frs.length = k + 1) (htop : c.1.frs[k]? = some f) (hcd : M.codes[f.fn.toNat]? = some cd) (ha : f.at_ = a) (hx : cd.body[a]? = some x) (hp : Plain x.op) (hF : NumOk x.op F) (hU : NumU F) :
    StepOk M c (oneC M c.2 c.1 f x F) ∧ CInv M nb (K + 1) (oneC M c.2 c.1 f x F).1 ∧ U64 (oneC M c.2 c.1 f x F).2.glo ∧ (oneC M c.2 c.1 f x F).2.blocks = c.2.blocks := by
  have hf := h.frs f (List.mem_of_getElem? htop)
  have hcw := hw.body cd (List.mem_of_getElem? hcd)
  have hal := (List.getElem?_eq_some_iff.1 hx).1
  obtain ⟨t, ht⟩ := hf.fun_
  have ht' := ht
  have hfn : f.fn = ((f.fn.toNat : Nat) : Int) := by have := hf.fn; omega
  rw [hfn] at ht'
  obtain ⟨_, _, _, _, h4⟩ := functionM_some ht'
  have hb : c.2.blocks[f.fn.toNat]? = some (c.2.blocks[f.fn.toNat]'(by omega)) := List.getElem?_eq_getElem _
  refine ⟨⟨k, f, cd, t, a, x, F, hov, ⟨hlen, by have := h.len; omega, hf.ok (by omega), by have := h.st; omega, h.u, ⟨cd, hcd⟩, ⟨_, hb, fun a e he => ?_⟩⟩, htop, by have := h.st; omega, hcd, by rw [hnb]; exact ht, ha, hx, hp, hF, rfl⟩, cinv_one hw hB hnb hg h hf (hcw.2.2 x (List.mem_of_getElem? hx)) (by have := hcw.1; omega) hK hU⟩
  have := hB.b _ (List.getElem_mem (by omega)) a e he
  omega
end Go.Proofs.YtjbdldekllffkaaGreatDoor
/- Runs of the plain machine. -/
set_option linter.unusedVariables false
namespace Go.Proofs.YtjbdldekllffkaaGreatDoor
open Go.St
variable {M : Mo}
theorem numU_of (op : Int) : NumU (fnOf op) := by
  unfold fnOf
  split
  · exact ⟨fun v => by simp only [fn69]; split <;> omega, fun a b => by simp [fn69]⟩
  split
  · exact ⟨fun v => by simp [fn106], fun a b => low_range _⟩
  split
  · exact ⟨fun v => by simp [fn107], fun a b => low_range _⟩
  · exact ⟨fun v => by simp [fn0], fun a b => by simp [fn0]⟩
theorem plain_of {op : Int} (h : op ∈ fixedOps) : Plain op := by
  simp only [fixedOps, List.mem_cons, List.not_mem_nil, or_false] at h
  exact ⟨by omega, by omega, by omega, by omega, by omega⟩
/-- A step, of the instructions that the fixed module has. -/
def nextC (M : Mo) (c : Cf × In) : Option (Cf × In) := if c.1.ov = true then none else match c.1.frs[c.1.frs.length - 1]? with
  | none => none
  | some f => if f.at_ < 0 then none else match M.codes[f.fn.toNat]? with
    | none => none
    | some cd => match cd.body[f.at_.toNat]? with
      | none => none
      | some x => if x.op ∈ fixedOps then some (oneC M c.2 c.1 f x (fnOf x.op)) else none
structure Good (M : Mo) (nb K : Nat) (c : Cf × In) : Prop where
  bk : BkInv c.2.blocks
  len : c.2.blocks.length = nb
  glo : U64 c.2.glo
  c : CInv M nb K c.1
theorem next_ok {nb K : Nat} {c c' : Cf × In} (hw : Wf M) (h : Good M nb K c) (hK : 1 ≤ K) (hK2 : K ≤ 800000000) (hn : nextC M c = some c') : StepOk M c c' ∧ Good M nb (K + 1) c' := by
  unfold nextC at hn
  split at hn
  · cases hn
  rename_i hov
  split at hn
  · cases hn
  rename_i f hf
  split at hn
  · cases hn
  rename_i hat
  split at hn
  · cases hn
  rename_i cd hcd
  split at hn
  · cases hn
  rename_i x hx
  split at hn
  · rename_i hop
    injection hn with hn
    have hlen : c.1.frs.length = (c.1.frs.length - 1) + 1 := by have := (List.getElem?_eq_some_iff.1 hf).1; omega
    obtain ⟨h1, h2, h3, h4⟩ := stepOk_of (a := f.at_.toNat) hw h.bk h.len h.glo h.c hK hK2 (by simpa using hov) hlen hf hcd (by omega) hx (plain_of hop) (okOf _ hop) (numU_of _)
    rw [hn] at h1 h2 h3 h4
    exact ⟨h1, by rw [h4]; exact h.bk, by rw [h4]; exact h.len, h3, h2⟩
  · cases hn
def runsC (M : Mo) : Nat → Cf × In → Option (Cf × In)
  | 0, c => some c
  | n + 1, c => match nextC M c with
    | none => none
    | some c' => runsC M n c'
theorem runs_add {n m : Nat} : ∀ {c c' c'' : Cf × In}, runsC M n c = some c' → runsC M m c' = some c'' → runsC M (n + m) c = some c'' := by
  induction n with
  | zero =>
    intro c c' c'' h1 h2
    simp only [runsC, Option.some.injEq] at h1
    rw [Nat.zero_add, h1]
    exact h2
  | succ n ih =>
    intro c c' c'' h1 h2
    rw [Nat.succ_add]
    simp only [runsC] at h1 ⊢
    split at h1
    · cases h1
    · exact ih h1 h2
/-- A run is a sequence of steps. -/
theorem runs_st {nb : Nat} (hw : Wf M) : ∀ {n K : Nat} {c c' : Cf × In}, Good M nb K c → 1 ≤ K → K + n ≤ 800000000 → runsC M n c = some c' → ∃ st : Nat → Cf × In, st 0 = c ∧ st n = c' ∧ ∀ k, k < n → StepOk M (st k) (st (k + 1))
  | 0, K, c, c', h, hK, hK2, hr => by
    simp only [runsC, Option.some.injEq] at hr
    exact ⟨fun _ => c, rfl, hr, fun k hk => by omega⟩
  | n + 1, K, c, c', h, hK, hK2, hr => by
    simp only [runsC] at hr
    split at hr
    · cases hr
    · rename_i c1 h1
      obtain ⟨hs, hg⟩ := next_ok hw h hK (by omega) h1
      obtain ⟨st, e0, en, hst⟩ := runs_st hw hg (by omega) (by omega) hr
      refine ⟨fun k => match k with
        | 0 => c
        | k + 1 => st k, rfl, en, fun k hk => ?_⟩
      cases k with
      | zero => show StepOk M c (st 0); rw [e0]; exact hs
      | succ k => exact hst k (by omega)
end Go.Proofs.YtjbdldekllffkaaGreatDoor
/- The fixed module's functions, run. -/
set_option linter.unusedVariables false
namespace Go.Proofs.YtjbdldekllffkaaGreatDoor
open Go.St
def ins (op : Int) (a : Int := 0) (n : Int := 0) (t : Int := 0) : Ins := ⟨op, a, 0, n, [], t⟩
/-- From a place on, where else and end are at this depth. -/
def seek : List Ins → Int → Nat → Int → Int × Int
  | [], i, d, el => (el, i)
  | x :: r, i, d, el => if x.op = 2 ∨ x.op = 3 ∨ x.op = 4 then seek r (i + 1) (d + 1) el else if x.op = 11 then (match d with
      | 0 => (el, i)
      | d + 1 => seek r (i + 1) d el)
    else if x.op = 5 ∧ d = 0 then seek r (i + 1) d i else seek r (i + 1) d el
def blocksOf (l : List Ins) (a : Int) : Option (Int × Int) := if a < 0 then none else match l[a.toNat]? with
  | none => none
  | some x => if x.op = 2 ∨ x.op = 3 ∨ x.op = 4 then some (seek (l.drop (a.toNat + 1)) (a + 1) 0 (-1)) else none
def fixedBodies : List (List Ins) := [
  [ins 35, ins 32, ins 106, ins 36, ins 35, ins 11],
  [ins 35, ins 11],
  [ins 65 0 99, ins 36, ins 3 0 0 (-64), ins 12, ins 11, ins 11],
  [ins 35, ins 65 0 1000, ins 106, ins 36, ins 0, ins 11],
  [ins 32, ins 32 1, ins 58, ins 11],
  [ins 32, ins 45, ins 11],
  [ins 2 0 0 (-64), ins 3 0 0 (-64), ins 32, ins 69, ins 13 1, ins 32, ins 65 0 1, ins 107, ins 33, ins 35, ins 65 0 1, ins 106, ins 36, ins 12, ins 11, ins 11, ins 35, ins 11],
  [ins 65 0 5, ins 36, ins 16 7, ins 11]]
def fixedM (fs : List Int) (bs : List (List Ins)) : Mo :=
  { types := [⟨[], []⟩, ⟨[127], [127]⟩, ⟨[], [127]⟩, ⟨[127, 127], []⟩], funcs := [1, 2, 0, 0, 3, 1, 1, 0] ++ fs, tabs := [], mems := [⟨1, 0, false⟩], globs := [[ins 65, ins 11]], elems := [], codes := (fixedBodies ++ bs).map fun b => ⟨[], b⟩, datas := [] }
@[irreducible] def memX : List Int := List.replicate 65536 0
def fixedI (bs : List (List Ins)) (g : Int) : In := { blocks := (fixedBodies ++ bs).map blocksOf, mem := memX, tabs := [], glo := [g], els := [], das := [] }
def look (n : Nat) (f : Nat) (l : List Int) := (runsC (fixedM [] []) n (openC (fixedM [] []) 8 cf0 f l, fixedI [] 0)).map (fun c => (c.1.ov, c.1.er, c.1.va, c.2.glo, c.1.st, c.1.frs.map (fun f => (f.fn, f.at_, f.lab.map (fun l => (l.to, l.ar, l.ht)), f.loc))))
set_option maxRecDepth 100000 in
theorem run6_3 : (look 43 6 [3]) = some (true, 0, [3], [3], [], []) := by kernel_rfl
set_option maxRecDepth 100000 in
theorem run6_100 : (look 1207 6 [100]) = some (true, 0, [100], [100], [], []) := by kernel_rfl
end Go.Proofs.YtjbdldekllffkaaGreatDoor
/- A round of work. -/
set_option linter.unusedVariables false
namespace Go.Proofs.YtjbdldekllffkaaGreatDoor
open Go.St
def headS (M : Mo) (below : List Fr) (bst : List Int) (I : In) (v : Int) (g : Int) : Cf × In := ({ frs := below ++ [⟨6, 2, 1, bst.length, [v], [⟨17, 1, bst.length⟩, ⟨15, 0, bst.length⟩, ⟨1, 0, bst.length⟩]⟩], st := bst, ov := false, er := 0, va := [] }, { I with glo := [g] })
theorem low_small {v : Int} (h : 0 ≤ v ∧ v < 4294967296) : lowI v = v := by unfold lowI; omega
theorem fn107_1 {v : Int} (h : 0 < v ∧ v < 4294967296) : (fnOf 107).two v 1 = (v - 1, 0) := by
  have e1 : lowI v = v := low_small (by omega)
  have e2 : lowI 1 = 1 := by decide
  have e3 : IntKind.u64.wrap (v - 1) = v - 1 := by simp [IntKind.wrap, IntKind.bits, IntKind.signed]; omega
  show (lowI (IntKind.u64.wrap (lowI v - lowI 1)), (0 : Int)) = _
  rw [e1, e2, e3, low_small (by omega)]
theorem fn106_1 {v : Int} (h : 0 ≤ v ∧ v < 4294967295) : (fnOf 106).two v 1 = (v + 1, 0) := by
  have e1 : lowI v = v := low_small (by omega)
  have e2 : lowI 1 = 1 := by decide
  have e3 : IntKind.u64.wrap (v + 1) = v + 1 := by simp [IntKind.wrap, IntKind.bits, IntKind.signed]; omega
  show (lowI (IntKind.u64.wrap (lowI v + lowI 1)), (0 : Int)) = _
  rw [e1, e2, e3, low_small (by omega)]
theorem fn69_1 {v : Int} (h : 0 < v ∧ v < 4294967296) : (fnOf 69).one v = 0 := by
  have e1 : lowI v = v := low_small (by omega)
  show (if (lowI v == 0) = true then (1 : Int) else 0) = 0
  rw [e1, if_neg (by simp; omega)]
theorem n69 : (fnOf 69).n = 1 := rfl
theorem n106 : (fnOf 106).n = 2 := rfl
theorem n107 : (fnOf 107).n = 2 := rfl
set_option maxRecDepth 100000 in
set_option maxHeartbeats 4000000 in
theorem round_c (v g : Int) (hv : 0 < v ∧ v < 4294967296) (hg : 0 ≤ g ∧ g < 4294967295) : (runsC (fixedM [] []) 12 (headS (fixedM [] []) [] [] (fixedI [] g) v g)) = some (headS (fixedM [] []) [] [] (fixedI [] (g + 1)) (v - 1) (g + 1)) := by
  have e := fn69_1 hv
  have e2 := fn107_1 hv
  have e3 := fn106_1 hg
  have l0 : lowI 0 = 0 := by decide
  have hm : min (0 : Int) 2147483647 = 0 := by decide
  simp [runsC, nextC, headS, fixedM, fixedI, fixedBodies, ins, fixedOps, oneC, doC, controlC, placesC, getL, pushI, setTop, numbersC, popsC, branchC, n69, n106, n107, e, e2, e3, l0, hm, landsC, opM, insAt]
/-- All rounds. -/
theorem rounds_c : ∀ (k : Nat) (g : Int), k < 4294967296 → 0 ≤ g → g + k < 4294967296 → runsC (fixedM [] []) (12 * k) (headS (fixedM [] []) [] [] (fixedI [] g) k g) = some (headS (fixedM [] []) [] [] (fixedI [] (g + k)) 0 (g + k))
  | 0, g, _, _, _ => by simp [runsC]
  | k + 1, g, h1, h2, h3 => by
    have a := round_c ((k + 1 : Nat) : Int) g (by omega) (by omega)
    have b := rounds_c k (g + 1) (by omega) (by omega) (by omega)
    have e : (((k + 1 : Nat) : Int) - 1) = (k : Int) := by omega
    rw [e] at a
    have c := runs_add a b
    rw [show 12 + 12 * k = 12 * (k + 1) by omega, show g + 1 + (k : Int) = g + ((k + 1 : Nat) : Int) by omega] at c
    exact c
end Go.Proofs.YtjbdldekllffkaaGreatDoor
/- The start of LinkStarts: so many rounds. -/
set_option linter.unusedVariables false
namespace Go.Proofs.YtjbdldekllffkaaGreatDoor
open Go.St
def startB (n : Int) : List Ins := [ins 65 0 n, ins 16 6, ins 26, ins 11]
def M8 (n : Int) : Mo := fixedM [0] [startB n]
def I8 (n g : Int) : In := fixedI [startB n] g
def head8 (n v g : Int) : Cf × In := ({ frs := [⟨8, 2, 0, 0, [], [⟨3, 0, 0⟩]⟩, ⟨6, 2, 1, 0, [v], [⟨17, 1, 0⟩, ⟨15, 0, 0⟩, ⟨1, 0, 0⟩]⟩], st := [], ov := false, er := 0, va := [] }, I8 n g)
set_option maxRecDepth 100000 in
set_option maxHeartbeats 4000000 in
theorem start8 (n : Int) (hn : 0 ≤ n ∧ n < 4294967296) : runsC (M8 n) 4 (openC (M8 n) 9 cf0 8 [], I8 n 0) = some (head8 n n 0) := by
  have e := low_small hn
  simp [runsC, nextC, head8, M8, I8, startB, fixedM, fixedI, fixedBodies, ins, fixedOps, oneC, doC, controlC, placesC, pushI, setTop, popsC, openC, callC, functionM, argsOf, cf0, enterC, enter2, signM, blkAt, blocksOf, seek, e]
set_option maxRecDepth 100000 in
set_option maxHeartbeats 4000000 in
theorem round8 (n v g : Int) (hv : 0 < v ∧ v < 4294967296) (hg : 0 ≤ g ∧ g < 4294967295) : runsC (M8 n) 12 (head8 n v g) = some (head8 n (v - 1) (g + 1)) := by
  have e := fn69_1 hv
  have e2 := fn107_1 hv
  have e3 := fn106_1 hg
  have l0 : lowI 0 = 0 := by decide
  have hm : min (0 : Int) 2147483647 = 0 := by decide
  simp [runsC, nextC, head8, M8, I8, startB, fixedM, fixedI, fixedBodies, ins, fixedOps, oneC, doC, controlC, placesC, getL, pushI, setTop, numbersC, popsC, branchC, n69, n106, n107, e, e2, e3, l0, hm, landsC, opM, insAt]
theorem rounds8 (n : Int) : ∀ (k : Nat) (g : Int), k < 4294967296 → 0 ≤ g → g + k < 4294967296 → runsC (M8 n) (12 * k) (head8 n k g) = some (head8 n 0 (g + k))
  | 0, g, _, _, _ => by simp [runsC]
  | k + 1, g, h1, h2, h3 => by
    have a := round8 n ((k + 1 : Nat) : Int) g (by omega) (by omega)
    have b := rounds8 n k (g + 1) (by omega) (by omega) (by omega)
    have e : (((k + 1 : Nat) : Int) - 1) = (k : Int) := by omega
    rw [e] at a
    have c := runs_add a b
    rw [show 12 + 12 * k = 12 * (k + 1) by omega, show g + 1 + (k : Int) = g + ((k + 1 : Nat) : Int) by omega] at c
    exact c
theorem fn69_0 : (fnOf 69).one 0 = 1 := by decide
set_option maxRecDepth 100000 in
set_option maxHeartbeats 4000000 in
theorem end8 (n g : Int) : runsC (M8 n) 7 (head8 n 0 g) = some (⟨[], [], true, 0, []⟩, I8 n g) := by
  have l1 : lowI 1 = 1 := by decide
  have hm : min (1 : Int) 2147483647 = 1 := by decide
  simp [runsC, nextC, head8, M8, I8, startB, fixedM, fixedI, fixedBodies, ins, fixedOps, oneC, doC, controlC, placesC, getL, pushI, setTop, numbersC, popsC, branchC, n69, fn69_0, l1, hm, landsC, opM, insAt, closeC, leaveC]
/-- The whole start. -/
theorem run8 (n : Nat) (hn : n < 4294967296) : runsC (M8 n) (12 * n + 11) (openC (M8 n) 9 cf0 8 [], I8 n 0) = some (⟨[], [], true, 0, []⟩, I8 n n) := by
  have a := start8 n (by omega)
  have b := rounds8 n n 0 hn (by omega) (by omega)
  have c := end8 n (0 + n)
  have d := runs_add (runs_add a b) c
  rw [show 4 + 12 * n + 7 = 12 * n + 11 by omega, Int.zero_add] at d
  exact d
set_option maxRecDepth 100000 in
theorem run3 (n : Int) : runsC (M8 n) 5 (openC (M8 n) 9 cf0 3 [], I8 n 0) = some (endsC 7, I8 n 1000) := by kernel_rfl
def spin8 (n : Int) : Cf × In := ({ frs := [⟨2, 3, 0, 0, [], [⟨5, 0, 0⟩, ⟨2, 0, 0⟩]⟩], st := [], ov := false, er := 0, va := [] }, I8 n 99)
set_option maxRecDepth 100000 in
theorem start2 (n : Int) : runsC (M8 n) 3 (openC (M8 n) 9 cf0 2 [], I8 n 0) = some (spin8 n) := by kernel_rfl
set_option maxRecDepth 100000 in
theorem spin2 (n : Int) : nextC (M8 n) (spin8 n) = some (spin8 n) := by kernel_rfl
theorem spins2 (n : Int) : ∀ k : Nat, runsC (M8 n) k (spin8 n) = some (spin8 n)
  | 0 => rfl
  | k + 1 => by
    simp only [runsC, spin2]
    exact spins2 n k
set_option maxRecDepth 100000 in
theorem run7 (n : Int) : runsC (M8 n) 96 (openC (M8 n) 9 cf0 7 [], I8 n 0) = some (endsC 8, I8 n 5) := by kernel_rfl
end Go.Proofs.YtjbdldekllffkaaGreatDoor
/- link's start. -/
set_option linter.unusedVariables false
namespace Go.Proofs.YtjbdldekllffkaaGreatDoor
open Go.RowKit Go.Sep Go.St
variable {w : World} {S : Nat → Prop} {L : Key → Option Ck} {u : Nat} {M : Mo}
theorem field3 (w : World) (fA sA vA : Option Addr) (fn fc sn sc vn vc : Nat) (b : Bool) (e : Int) : (Instr.field 48 (.agg #[.slice fA fn fc, .slice sA sn sc, .bool b, .int .i64 e, .slice vA vn vc]) 3).run Tryz.prog w = .ok (.int .i64 e) w := by
  simp [Instr.field, asAgg, go_sem]
def StR (w : World) (S : Nat → Prop) (L : Key → Option Ck) (u iB mk : Nat) (M : Mo) (I : In) (er : Int) (w' : World) : Prop :=
  ∃ S' L', Si w' S' L' u iB M I ∧ L' (.tmp 2) = some (.cl mk 0 [.pointer (some ⟨iB, 0, none⟩), .int .i64 er]) ∧ (∀ q : Key, q.own ≠ some u → q ≠ .tmp 2 → L' q = L q) ∧ Ro S w w' ∧ ∀ b, S b → S' b
set_option maxRecDepth 100000 in
set_option maxHeartbeats 1000000 in
theorem starts_c {iB mk : Nat} {I : In} (h : Si w S L u iB M I) (h0 : L (.tmp 0) = none) (h1 : L (.tmp 1) = none) (h2 : L (.tmp 2) = some (.cl mk 0 [.pointer (some ⟨iB, 0, none⟩), .int .i64 0])) (f : Nat) (hf : f < 4294967296) (hc6 : w.cell? ⟨iB, 6, none⟩ = some (.bool true)) (hc7 : w.cell? ⟨iB, 7, none⟩ = some (.int .u32 (f : Int)))
    (st : Nat → Cf × In) (hst0 : st 0 = (openC M I.blocks.length cf0 f [], I)) (n : Nat) (hs : ∀ k, k < n → StepOk M (st k) (st (k + 1))) (hn : (n : Int) ≤ 1000 ∨ n = 0) (hend : (st n).1.ov = true ∨ (1000 : Int) ≤ n) :
    Calls Tryz.prog 88 #[.pointer (some ⟨mk, 0, none⟩)] w fun e w' => e = .returned (.tuple #[]) ∧ StR w S L u iB mk M (st n).2 (endOf (st n).1).er w' := by
  have hd : Si w.drew S L u iB M I := ⟨h.sep.drew, h.mach, h.cfg, h.ins.mono ⟨⟨Nat.le_refl _, rfl, rfl⟩, fun _ _ => rfl⟩ (fun _ h => h) rfl rfl rfl (fun _ => rfl) rfl rfl rfl, h.wf⟩
  have HA := Lib.hid (all_c hd h0 h1 f hf none 0 0 [] ⟨none, 0, rfl, by simp, by simp [maxLen], fun h => by simp at h, fun _ => rfl⟩ (fun x hx => by simp at hx) st hst0 n hs 1000 hn (by omega) hend)
  have m0 := h.sep.cell0 h2 0 _ rfl
  have m1 := h.sep.cell0 h2 1 _ rfl
  have HH := Lib.hid h2
  have d7 : w.drew.cell? ⟨iB, 7, none⟩ = some (.int .u32 (f : Int)) := hc7
  clear h h0 h1 h2 hf hst0 hs hn hend hd
  go_enter Tryz.func88, Tryz.ntmps88
  go_wp2_with fail
  refine wp_region_z (fun w' => w'.cell? ⟨mk, 0, none⟩ = some (.pointer (some ⟨iB, 0, none⟩))) (fun j => j == 17) (by kernel_rfl) ?_ (fun hHeld => ?_)
  · first | exact m0 | exact hHeld | exact mm0
  (refine wpZ_take (i := 0) (oi := ⟨some 17, .move (.tmp 0), 156, _, _, none⟩) (v := ?_) rfl (by kernel_rfl) (fun _ _ _ h => h) (by assumption) (Or.inl ⟨by rfl, ?_⟩) ?_; rotate_left 1; · ((intro w hSw; (try dsimp only at hSw); go_split_ands; go_simp) <;> (try with_reducible rfl)))
  try simp only [Act.put, List.setIfInBounds_toArray, List.set_cons_zero, List.set_cons_succ]
  (refine wpZ_take (i := 1) (oi := ⟨some 18, .move (.tmp 0), 156, _, _, none⟩) (v := ?_) rfl (by kernel_rfl) (fun _ _ _ h => h) (by assumption) (Or.inl ⟨by rfl, ?_⟩) ?_; rotate_left 1; · ((intro w hSw; (try dsimp only at hSw); go_split_ands; go_simp) <;> (try with_reducible rfl)))
  try simp only [Act.put, List.setIfInBounds_toArray, List.set_cons_zero, List.set_cons_succ]
  (refine wpZ_take (i := 2) (oi := ⟨some 19, .nilCheck (.tmp 18), 0, _, _, none⟩) (v := ?_) rfl (by kernel_rfl) (fun _ _ _ h => h) (by assumption) (Or.inl ⟨by rfl, ?_⟩) ?_; rotate_left 1; · ((intro w hSw; (try dsimp only at hSw); go_split_ands; go_simp) <;> (try with_reducible rfl)))
  try simp only [Act.put, List.setIfInBounds_toArray, List.set_cons_zero, List.set_cons_succ]
  (refine wpZ_take (i := 3) (oi := ⟨some 20, .fieldAddr 158 (.tmp 19) 0, 0, _, _, none⟩) (v := ?_) rfl (by kernel_rfl) (fun _ _ _ h => h) (by assumption) (Or.inl ⟨by rfl, ?_⟩) ?_; rotate_left 1; · ((intro w hSw; (try dsimp only at hSw); go_split_ands; go_simp) <;> (try with_reducible rfl)))
  try simp only [Act.put, List.setIfInBounds_toArray, List.set_cons_zero, List.set_cons_succ]
  (refine wpZ_take (i := 4) (oi := ⟨some 21, .load 26 (.tmp 20), 26, _, _, none⟩) (v := ?_) rfl (by kernel_rfl) (fun _ _ _ h => h) (by assumption) (Or.inl ⟨by rfl, ?_⟩) ?_; rotate_left 1; · ((intro w hSw; (try dsimp only at hSw); go_split_ands; go_simp) <;> (try with_reducible rfl)))
  try simp only [Act.put, List.setIfInBounds_toArray, List.set_cons_zero, List.set_cons_succ]
  (refine wpZ_take (i := 5) (oi := ⟨some 22, .move (.tmp 0), 156, _, _, none⟩) (v := ?_) rfl (by kernel_rfl) (fun _ _ _ h => h) (by assumption) (Or.inl ⟨by rfl, ?_⟩) ?_; rotate_left 1; · ((intro w hSw; (try dsimp only at hSw); go_split_ands; go_simp) <;> (try with_reducible rfl)))
  try simp only [Act.put, List.setIfInBounds_toArray, List.set_cons_zero, List.set_cons_succ]
  (refine wpZ_take (i := 6) (oi := ⟨some 23, .nilCheck (.tmp 22), 0, _, _, none⟩) (v := ?_) rfl (by kernel_rfl) (fun _ _ _ h => h) (by assumption) (Or.inl ⟨by rfl, ?_⟩) ?_; rotate_left 1; · ((intro w hSw; (try dsimp only at hSw); go_split_ands; go_simp) <;> (try with_reducible rfl)))
  try simp only [Act.put, List.setIfInBounds_toArray, List.set_cons_zero, List.set_cons_succ]
  (refine wpZ_take (i := 7) (oi := ⟨some 24, .fieldAddr 158 (.tmp 23) 0, 0, _, _, none⟩) (v := ?_) rfl (by kernel_rfl) (fun _ _ _ h => h) (by assumption) (Or.inl ⟨by rfl, ?_⟩) ?_; rotate_left 1; · ((intro w hSw; (try dsimp only at hSw); go_split_ands; go_simp) <;> (try with_reducible rfl)))
  try simp only [Act.put, List.setIfInBounds_toArray, List.set_cons_zero, List.set_cons_succ]
  (refine wpZ_take (i := 8) (oi := ⟨some 25, .load 26 (.tmp 24), 26, _, _, none⟩) (v := ?_) rfl (by kernel_rfl) (fun _ _ _ h => h) (by assumption) (Or.inl ⟨by rfl, ?_⟩) ?_; rotate_left 1; · ((intro w hSw; (try dsimp only at hSw); go_split_ands; go_simp) <;> (try with_reducible rfl)))
  try simp only [Act.put, List.setIfInBounds_toArray, List.set_cons_zero, List.set_cons_succ]
  (refine wpZ_take (i := 9) (oi := ⟨some 26, .nilCheck (.tmp 25), 0, _, _, none⟩) (v := ?_) rfl (by kernel_rfl) (fun _ _ _ h => h) (by assumption) (Or.inl ⟨by rfl, ?_⟩) ?_; rotate_left 1; · ((intro w hSw; (try dsimp only at hSw); go_split_ands; go_simp) <;> (try with_reducible rfl)))
  try simp only [Act.put, List.setIfInBounds_toArray, List.set_cons_zero, List.set_cons_succ]
  (refine wpZ_take (i := 10) (oi := ⟨some 27, .fieldAddr 44 (.tmp 26) 0, 0, _, _, none⟩) (v := ?_) rfl (by kernel_rfl) (fun _ _ _ h => h) (by assumption) (Or.inl ⟨by rfl, ?_⟩) ?_; rotate_left 1; · ((intro w hSw; (try dsimp only at hSw); go_split_ands; go_simp) <;> (try with_reducible rfl)))
  try simp only [Act.put, List.setIfInBounds_toArray, List.set_cons_zero, List.set_cons_succ]
  (refine wpZ_take (i := 11) (oi := ⟨some 28, .fieldAddr 39 (.tmp 27) 7, 0, _, _, none⟩) (v := ?_) rfl (by kernel_rfl) (fun _ _ _ h => h) (by assumption) (Or.inl ⟨by rfl, ?_⟩) ?_; rotate_left 1; · ((intro w hSw; (try dsimp only at hSw); go_split_ands; go_simp) <;> (try with_reducible rfl)))
  try simp only [Act.put, List.setIfInBounds_toArray, List.set_cons_zero, List.set_cons_succ]
  refine wpZ_one (i := 12) (oi := ⟨some 29, .load 28 (.tmp 28), 28, _, _, none⟩) rfl (by kernel_rfl) (fun K hK => ?_)
  go_simp
  refine hK.out _ _ (fun _ => by (first | exact m0 | exact hHeld | exact mm0)) (fun hh => ?_)
  have hHeld := hh rfl
  clear hK K
  try simp only [Act.put, List.setIfInBounds_toArray, List.set_cons_zero, List.set_cons_succ]
  refine wpZ_one (i := 13) (oi := ⟨some 30, .call { callee := .value (.func 31), args := #[.tmp 21, .tmp 29, .const (.int .i64 1000), .const (.slice none 0 0)], argTypes := #[26, 28, 3, 23] }, 48, _, _, none⟩) rfl (by kernel_rfl) (fun K hK => ?_)
  go_simp; refine HA.out.mono ?_; rintro e w3 ⟨fv, sv, vv, S3, L3, rfl, hv, k3, ro3, hS3⟩; obtain ⟨fA, fn, fc, sA, sn, sc, vA, vn, vc, rfl, rfl, rfl⟩ := hv.forms; have FQ := fun w => field3 w fA sA vA fn fc sn sc vn vc (endOf (st n).1).ov (endOf (st n).1).er; have ht3 := (k3 (.tmp 2) (by simp [Key.own])).trans HH.out; have mm0 := hv.sep.cell0 ht3 0 _ rfl; have mm1 := hv.sep.cell0 ht3 1 _ rfl; have mz1 := hv.sep.frozen ht3 1; have HV := Lib.hid (And.intro hv (And.intro k3 (And.intro ro3 (And.intro hS3 ht3)))); clear hv k3 ro3 hS3 ht3 m0 m1 d7 hc6 hc7; go_wp2_with fail
  refine hK.out _ _ (fun _ => by (first | exact m0 | exact hHeld | exact mm0)) (fun hh => ?_)
  have hHeld := hh rfl
  clear hK K
  try simp only [Act.put, List.setIfInBounds_toArray, List.set_cons_zero, List.set_cons_succ]
  (refine wpZ_take (i := 14) (oi := ⟨some 31, .field 48 (.tmp 30) 3, 46, _, _, none⟩) (v := ?_) rfl (by kernel_rfl) (fun _ _ _ h => h) (by assumption) (Or.inl ⟨by rfl, ?_⟩) ?_; rotate_left 1; · ((intro w hSw; (try dsimp only at hSw); go_split_ands; go_simp) <;> (try with_reducible rfl)))
  try simp only [Act.put, List.setIfInBounds_toArray, List.set_cons_zero, List.set_cons_succ]
  (refine wpZ_take (i := 15) (oi := ⟨some 32, .nilCheck (.tmp 17), 0, _, _, none⟩) (v := ?_) rfl (by kernel_rfl) (fun _ _ _ h => h) (by assumption) (Or.inl ⟨by rfl, ?_⟩) ?_; rotate_left 1; · ((intro w hSw; (try dsimp only at hSw); go_split_ands; go_simp) <;> (try with_reducible rfl)))
  try simp only [Act.put, List.setIfInBounds_toArray, List.set_cons_zero, List.set_cons_succ]
  (refine wpZ_take (i := 16) (oi := ⟨some 33, .fieldAddr 158 (.tmp 32) 1, 0, _, _, none⟩) (v := ?_) rfl (by kernel_rfl) (fun _ _ _ h => h) (by assumption) (Or.inl ⟨by rfl, ?_⟩) ?_; rotate_left 1; · ((intro w hSw; (try dsimp only at hSw); go_split_ands; go_simp) <;> (try with_reducible rfl)))
  try simp only [Act.put, List.setIfInBounds_toArray, List.set_cons_zero, List.set_cons_succ]
  refine wpZ_one (i := 17) (oi := ⟨none, .store 46 (.tmp 33) (.tmp 31), 0, _, _, none⟩) rfl (by kernel_rfl) (fun K hK => ?_)
  go_simp
  refine hK.out _ _ (fun h => by simp at h) (fun _ => ?_)
  clear hK K
  try simp only [Act.put, List.setIfInBounds_toArray, List.set_cons_zero, List.set_cons_succ]
  refine wpZ_done (by kernel_rfl) ?_ _
  have hfin : StR w S L u iB mk M (st n).2 (endOf (st n).1).er (w3.setCell ⟨mk, 1, none⟩ (.int .i64 (endOf (st n).1).er)) := by
    obtain ⟨hv, k3, ro3, hS3, ht3⟩ := HV.out
    have s1 := hv.sep.set0 ht3 1 (by simp) (.int .i64 (endOf (st n).1).er)
    have r1 := hv.sep.ro_setCell ht3 1 (.int .i64 (endOf (st n).1).er)
    have h5 := hv.move s1 r1 (fun q hq => upd_other _ _ (hq 2))
    refine ⟨S3, _, h5.si, upd_same _ _ _, fun q hq e => by rw [upd_other _ _ e]; exact k3 q hq, Ro.trans (⟨⟨Nat.le_refl _, rfl, rfl⟩, fun _ _ => rfl⟩ : Ro S w w.drew) (ro3.trans r1 hS3) (fun _ h => h), hS3⟩
  have FIN := Lib.hid hfin
  clear hfin HV
  go_wp2
  go_end0
  exact ⟨rfl, FIN.out⟩
end Go.Proofs.YtjbdldekllffkaaGreatDoor
/- link's Make. -/
set_option linter.unusedVariables false
set_option linter.unusedSimpArgs false
namespace Go.Proofs.YtjbdldekllffkaaGreatDoor
open Go.RowKit Go.Sep Go.St
variable {w : World} {S : Nat → Prop} {L : Key → Option Ck} {u : Nat} {M : Mo} {mc : List Value}
/-- link's maker: an instance, and its error. -/
structure Lk (w : World) (S : Nat → Prop) (L : Key → Option Ck) (u iB mB : Nat) (M : Mo) (mc : List Value) (I : In) (er : Int) : Prop where
  sm : Sm w S L u iB M mc I
  mkr : L (.tmp 2) = some (.cl mB 0 [.pointer (some ⟨iB, 0, none⟩), .int .i64 er])
theorem Sm.move {w1 : World} {S1 : Nat → Prop} {L1 : Key → Option Ck} {iB : Nat} {I : In} (h : Sm w S L u iB M mc I) (s1 : Sep w1 S1 L1) (ro : Ro S w w1) (hS : ∀ b, S b → S1 b) (hk : ∀ q, (∀ k, q ≠ .tmp k) → L1 q = L q) : Sm w1 S1 L1 u iB M mc I := by
  have o := hk
  obtain ⟨r, h1, h2⟩ := h.ins
  exact ⟨⟨s1, (o _ (by simp)).trans h.si.mach, (o _ (by simp)).trans h.si.cfg, h.si.ins.mono ro hS (o _ (by simp)) (o _ (by simp)) (o _ (by simp)) (fun k => o _ (by simp)) (o _ (by simp)) (o _ (by simp)) (o _ (by simp)), h.si.wf⟩, r, (o _ (by simp)).trans h1, h2⟩
theorem Sm.still {w1 : World} {iB : Nat} {I : In} (h : Sm w S L u iB M mc I) (q : Below w.heap.size w w1) : Sm w1 S L u iB M mc I :=
  h.move (h.si.sep.still q.size q.block) ⟨⟨q.size, q.os, q.output⟩, fun b hb => q.block b (h.si.sep.lt b hb)⟩ (fun _ h => h) (fun _ _ => rfl)
theorem Lk.still {w1 : World} {iB mB : Nat} {I : In} {er : Int} (h : Lk w S L u iB mB M mc I er) (q : Below w.heap.size w w1) : Lk w1 S L u iB mB M mc I er := ⟨h.sm.still q, h.mkr⟩
theorem Sm.tmp {iB : Nat} {I : In} (h : Sm w S L u iB M mc I) (k : Nat) (hk : L (.tmp k) = none) (arr : Array Value) (t : Nat) : Sm (w.alloc (.cells arr t)) S (upd L (.tmp k) (.cl w.heap.size 0 arr.toList)) u iB M mc I :=
  h.move (h.si.sep.new (.tmp k) arr t hk) (((Still.refl w).alloc _).ro h.si.sep.lt) (fun _ h => h) (fun q hq => upd_other _ _ (hq k))
def LkTo (w : World) (S : Nat → Prop) (L : Key → Option Ck) (u iB mB : Nat) (M : Mo) (mc : List Value) (I : In) (er : Int) (w' : World) : Prop :=
  ∃ S' L', Lk w' S' L' u iB mB M mc I er ∧ Ro S w w' ∧ (∀ b, S b → S' b) ∧ ∀ q : Key, q.own ≠ some u → q ≠ .tmp 2 → L' q = L q
/-- What elem and data do of each segment, one behind the other. -/
def ElemOk (u : Nat) (M : Mo) (mc : List Value) (st : Nat → In × Int) : Prop := ∀ (k : Nat) (x : El), M.elems[k]? = some x → ∀ (w : World) (S : Nat → Prop) (L : Key → Option Ck) (iB mB : Nat) (t : Int) (oA iA : Option Addr) (oc ic : Nat), Lk w S L u iB mB M mc (st k).1 (st k).2 → RdL w S 6 (InsR w S) (.slice oA x.off.length oc) x.off → RdL w S 1 (fun (l : List Ins) cs => ∃ v, cs = [v] ∧ RdL w S 6 (InsR w S) v l) (.slice iA x.init.length ic) x.init →
  L (.tmp 0) = none → L (.tmp 1) = none → Calls Tryz.prog 86 #[.pointer (some ⟨mB, 0, none⟩), .int .i64 (k : Int), .agg #[.int .u8 x.mode, .int .u8 t, .int .u32 x.table, .slice oA x.off.length oc, .slice iA x.init.length ic]] w fun e w' => e = .returned (.tuple #[]) ∧ LkTo w S L u iB mB M mc (st (k + 1)).1 (st (k + 1)).2 w'
def DataOk (u : Nat) (M : Mo) (mc : List Value) (st : Nat → In × Int) : Prop := ∀ (k : Nat) (x : Da), M.datas[k]? = some x → ∀ (w : World) (S : Nat → Prop) (L : Key → Option Ck) (iB mB : Nat) (oA bA : Option Addr) (oc bc : Nat), Lk w S L u iB mB M mc (st k).1 (st k).2 → RdL w S 6 (InsR w S) (.slice oA x.off.length oc) x.off → RdL w S 1 (num1 .u8) (.slice bA x.bytes.length bc) x.bytes →
  L (.tmp 0) = none → L (.tmp 1) = none → Calls Tryz.prog 87 #[.pointer (some ⟨mB, 0, none⟩), .int .i64 (k : Int), .agg #[.int .u8 x.mode, .slice oA x.off.length oc, .slice bA x.bytes.length bc]] w fun e w' => e = .returned (.tuple #[]) ∧ LkTo w S L u iB mB M mc (st (k + 1)).1 (st (k + 1)).2 w'
/-- What the start comes to. -/
def StartOk (u : Nat) (M : Mo) (mc : List Value) (I : In) (er : Int) (I' : In) (er' : Int) : Prop := ∀ (w : World) (S : Nat → Prop) (L : Key → Option Ck) (iB mB : Nat), Lk w S L u iB mB M mc I er → L (.tmp 0) = none → L (.tmp 1) = none →
  Calls Tryz.prog 88 #[.pointer (some ⟨mB, 0, none⟩)] w fun e w' => e = .returned (.tuple #[]) ∧ StR w S L u iB mB M I' er' w'
def MakeR (w : World) (S : Nat → Prop) (L : Key → Option Ck) (u : Nat) (M : Mo) (I : In) (er : Int) (e : Ending) (w' : World) : Prop :=
  ∃ iB S' L', (er ≠ 0 ∧ e = .returned (.tuple #[.pointer none, .int .i64 er]) ∨ er = 0 ∧ e = .returned (.tuple #[.pointer (some ⟨iB, 0, none⟩), .int .i64 0])) ∧ Si w' S' L' u iB M I ∧ Ro S w w' ∧ (∀ b, S b → S' b) ∧ ∀ q : Key, q.own ≠ some u → q ≠ .tmp 2 → q ≠ .tmp 3 → L' q = L q
theorem bro {w w1 : World} (h : Below w.heap.size w w1) {S : Nat → Prop} (hS : ∀ b, S b → b < w.heap.size) : Ro S w w1 := ⟨⟨h.size, h.os, h.output⟩, fun b hb => h.block b (hS b hb)⟩
set_option maxRecDepth 100000 in
set_option maxHeartbeats 4000000 in
theorem make_c (hs : Sep w S L) (hm : ModR w S M mc) (hw : Wf M) (k0 : L .mach = none) (k1 : L (.cfg u) = none) (t0 : L (.tmp 0) = none) (t1 : L (.tmp 1) = none) (t2 : L (.tmp 2) = none) {xA : Option Addr} {xn xc : Nat} {st : Bool} {sn : Int} {cs : Bool} {cn : Int} (hx : Mx mc xA xn xc st sn cs cn) (ess : List Es) (hF : Fine M ess)
    (stE stD : Nat → In × Int) (he0 : stE 0 = (newI M ess, 0)) (hd0 : stD 0 = stE M.elems.length) (HE : ElemOk u M mc stE) (HD : DataOk u M mc stD) (I' : In) (er' : Int) (hst : StartOk u M mc (stD M.datas.length).1 (stD M.datas.length).2 I' er') :
    Calls Tryz.prog 47 #[.agg mc.toArray] w (MakeR w S L u M I' er') := by
  obtain ⟨tA, fA, bA, mA, gA, eA, cA, dA, tc, fc, bc, mk, gc, ec, cc, dc, ⟨hmf⟩⟩ := hm.form hx
  have HN := Lib.hid (fun (w1 : World) (S1 : Nat → Prop) (hs1 : Sep w1 S1 L) (hm1 : ModR w1 S1 M mc) => new_c (u := u) hs1 hm1 hw k0 k1 hx ess hF)
  have HK := Lib.hid (And.intro t0 (And.intro t1 t2))
  have HW := Lib.hid hw
  have HM := Lib.hid hm
  have HS := Lib.hid hs
  have HEE := Lib.hid (And.intro he0 (And.intro hd0 (And.intro HE (And.intro HD hst))))
  subst hmf
  clear hs hm hw k0 k1 hx hF t0 t1 t2 he0 hd0 HE HD hst
  go_enter Tryz.func47, Tryz.ntmps47
  go_wp2_with fail
  generalize hpB : w.heap.size = pB
  have b1 : Below w.heap.size w (w.alloc (.cells #[.slice tA M.types.length tc, .slice fA M.funcs.length fc, .slice bA M.tabs.length bc, .slice mA M.mems.length mk, .slice gA M.globs.length gc, .slice xA xn xc, .bool st, .int .u32 sn, .slice eA M.elems.length ec, .bool cs, .int .u32 cn, .slice cA M.codes.length cc, .slice dA M.datas.length dc] 39)) := (Below.refl _ _).alloc (Nat.le_refl _) _
  generalize hw1 : w.alloc (.cells #[.slice tA M.types.length tc, .slice fA M.funcs.length fc, .slice bA M.tabs.length bc, .slice mA M.mems.length mk, .slice gA M.globs.length gc, .slice xA xn xc, .bool st, .int .u32 sn, .slice eA M.elems.length ec, .bool cs, .int .u32 cn, .slice cA M.codes.length cc, .slice dA M.datas.length dc] 39) = w1 at *
  have p0 : w1.cell? ⟨pB, 0, none⟩ = some (.slice tA M.types.length tc) := by rw [← hw1, ← hpB]; simp
  have p1 : w1.cell? ⟨pB, 1, none⟩ = some (.slice fA M.funcs.length fc) := by rw [← hw1, ← hpB]; simp
  have p2 : w1.cell? ⟨pB, 2, none⟩ = some (.slice bA M.tabs.length bc) := by rw [← hw1, ← hpB]; simp
  have p3 : w1.cell? ⟨pB, 3, none⟩ = some (.slice mA M.mems.length mk) := by rw [← hw1, ← hpB]; simp
  have p4 : w1.cell? ⟨pB, 4, none⟩ = some (.slice gA M.globs.length gc) := by rw [← hw1, ← hpB]; simp
  have p5 : w1.cell? ⟨pB, 5, none⟩ = some (.slice xA xn xc) := by rw [← hw1, ← hpB]; simp
  have p6 : w1.cell? ⟨pB, 6, none⟩ = some (.bool st) := by rw [← hw1, ← hpB]; simp
  have p7 : w1.cell? ⟨pB, 7, none⟩ = some (.int .u32 sn) := by rw [← hw1, ← hpB]; simp
  have p8 : w1.cell? ⟨pB, 8, none⟩ = some (.slice eA M.elems.length ec) := by rw [← hw1, ← hpB]; simp
  have p9 : w1.cell? ⟨pB, 9, none⟩ = some (.bool cs) := by rw [← hw1, ← hpB]; simp
  have p10 : w1.cell? ⟨pB, 10, none⟩ = some (.int .u32 cn) := by rw [← hw1, ← hpB]; simp
  have p11 : w1.cell? ⟨pB, 11, none⟩ = some (.slice cA M.codes.length cc) := by rw [← hw1, ← hpB]; simp
  have p12 : w1.cell? ⟨pB, 12, none⟩ = some (.slice dA M.datas.length dc) := by rw [← hw1, ← hpB]; simp
  have hlt : pB < w1.heap.size := World.block_lt_of_cell? _ _ p0
  have HS1 := Lib.hid (show Sep w1 (fun b => S b ∨ b = pB) L from (HS.out.still b1.size b1.block).more (fun k c b e1 e2 hb => by
    rcases hb with hb | rfl
    · exact HS.out.ro k c b e1 e2 hb
    · have := Ck.lt (HS.out.holds k c e1) e2
      omega) (fun b hb => by
    rcases hb with hb | rfl
    · exact Nat.lt_of_lt_of_le (HS.out.lt b hb) b1.size
    · exact hlt))
  have ro01 : Ro S w w1 := ⟨⟨b1.size, b1.os, b1.output⟩, fun b hb => b1.block b (HS.out.lt b hb)⟩
  have HNC := Lib.hid (HN.out w1 _ HS1.out (HM.out.mono (S' := fun b => S b ∨ b = pB) ro01 (fun b hb => .inl hb)))
  have HRO := Lib.hid ro01
  clear hpB hw1 b1 ro01
  refine HNC.out.mono ?_
  rintro e w2 ⟨iB, S2, L2, rfl, h2, ro2, hS2, hk2⟩
  have q8 : w2.cell? ⟨pB, 8, none⟩ = some (.slice eA M.elems.length ec) := (World.cell?_of_block (a := ⟨pB, 8, none⟩) (ro2.2 pB (.inr rfl))).trans p8
  have q12 : w2.cell? ⟨pB, 12, none⟩ = some (.slice dA M.datas.length dc) := (World.cell?_of_block (a := ⟨pB, 12, none⟩) (ro2.2 pB (.inr rfl))).trans p12
  have hpS : S2 pB := hS2 pB (.inr rfl)
  have hplt : pB < w2.heap.size := h2.si.sep.lt pB hpS
  have ro02 : Ro S w w2 := HRO.out.trans ro2 (fun b hb => .inl hb)
  have hSS : ∀ b, S b → S2 b := fun b hb => hS2 b (.inl hb)
  have qa : Below w2.heap.size w2 (w2.alloc (.cells #[.pointer (some ⟨iB, 0, none⟩), .int .i64 0] 158)) := (Below.refl _ _).alloc (Nat.le_refl _) _
  have ha : Lk (w2.alloc (.cells #[.pointer (some ⟨iB, 0, none⟩), .int .i64 0] 158)) S2 (upd L2 (.tmp 2) (.cl w2.heap.size 0 [.pointer (some ⟨iB, 0, none⟩), .int .i64 0])) u iB w2.heap.size M [.slice tA M.types.length tc, .slice fA M.funcs.length fc, .slice bA M.tabs.length bc, .slice mA M.mems.length mk, .slice gA M.globs.length gc, .slice xA xn xc, .bool st, .int .u32 sn, .slice eA M.elems.length ec, .bool cs, .int .u32 cn, .slice cA M.codes.length cc, .slice dA M.datas.length dc] (newI M ess) 0 := ⟨h2.tmp 2 ((hk2 _ (by simp [Key.own]) (by simp)).trans HK.out.2.2) #[.pointer (some ⟨iB, 0, none⟩), .int .i64 0] 158, upd_same _ _ _⟩
  have roa := bro qa h2.si.sep.lt
  have hma := HM.out.mono (S' := S2) (ro02.trans roa hSS) hSS
  obtain ⟨v8, e8, hel⟩ := hma.elems
  cases e8
  have HEL := Lib.hid hel
  obtain ⟨v12, e12, hda⟩ := hma.datas
  cases e12
  have HDA := Lib.hid hda
  have HKA := Lib.hid (show ∀ q : Key, q.own ≠ some u → q ≠ .tmp 2 → q ≠ .tmp 3 → upd L2 (.tmp 2) (.cl w2.heap.size 0 [.pointer (some ⟨iB, 0, none⟩), .int .i64 0]) q = L q from fun q a b c => by rw [upd_other _ _ b]; exact hk2 q a c)
  have HA := Lib.hid (And.intro ha (And.intro hpS (And.intro (ro02.trans roa hSS) hSS)))
  have HQ := Lib.hid (show ∀ w', Ro S2 (w2.alloc (.cells #[.pointer (some ⟨iB, 0, none⟩), .int .i64 0] 158)) w' → w'.cell? ⟨pB, 12, none⟩ = some (.slice dA M.datas.length dc) from fun w' r => (World.cell?_of_block (a := ⟨pB, 12, none⟩) (r.2 pB hpS)).trans ((qa.cell hplt).trans q12))
  clear h2 ro2 hS2 hk2 hpS ro02 hSS qa ha roa hma hel hda q12 p0 p1 p2 p3 p4 p5 p6 p7 p8 p9 p10 p11 p12 hlt
  go_wp2_with fail
  generalize hwa : w2.alloc (.cells #[.pointer (some ⟨iB, 0, none⟩), .int .i64 0] 158) = wa at *
  generalize w2.heap.size = mB at *
  generalize hLa : upd L2 (.tmp 2) (.cl mB 0 [.pointer (some ⟨iB, 0, none⟩), .int .i64 0]) = La at *
  have H0 := Lib.hid (show LkTo wa S2 La u iB mB M [.slice tA M.types.length tc, .slice fA M.funcs.length fc, .slice bA M.tabs.length bc, .slice mA M.mems.length mk, .slice gA M.globs.length gc, .slice xA xn xc, .bool st, .int .u32 sn, .slice eA M.elems.length ec, .bool cs, .int .u32 cn, .slice cA M.codes.length cc, .slice dA M.datas.length dc] (stE 0).1 (stE 0).2 wa from ⟨S2, La, by rw [HEE.out.1]; exact HA.out.1, Ro.refl _ _, fun _ h => h, fun _ _ _ => rfl⟩)
  go_loopw [25] (fun i wr => ∃ n : Nat, n ≤ M.elems.length ∧ i = .int .i64 n ∧ LkTo wa S2 La u iB mB M [.slice tA M.types.length tc, .slice fA M.funcs.length fc, .slice bA M.tabs.length bc, .slice mA M.mems.length mk, .slice gA M.globs.length gc, .slice xA xn xc, .bool st, .int .u32 sn, .slice eA M.elems.length ec, .bool cs, .int .u32 cn, .slice cA M.codes.length cc, .slice dA M.datas.length dc] (stE n).1 (stE n).2 wr) (fun i _ => M.elems.length - (intOf i).toNat)
  case atStart => exact ⟨0, Nat.zero_le _, rfl, H0.out⟩
  case round =>
    obtain ⟨n, hn, rfl, S3, L3, h3, ro3, hS3, hk3⟩ := hrel
    by_cases hlt : n < M.elems.length
    · have hx : M.elems[n]? = some M.elems[n] := List.getElem?_eq_getElem hlt
      generalize M.elems[n] = x at hx
      have hg8 := HEL.out.mono ro3 hS3 (fun _ _ h => h.mono ro3 hS3)
      obtain ⟨g, o, cs1, rfl, hSg, _, ⟨ty, ov, iv, rfl, hov, hiv⟩, hcs⟩ := hg8.get n x hx
      obtain ⟨oA, oc, rfl, _, _, _, _⟩ := id hov
      obtain ⟨iA, ic, rfl, _, _, _, _⟩ := id hiv
      have k0 := hcs 0 _ rfl
      have k1 := hcs 1 _ rfl
      have k2 := hcs 2 _ rfl
      have k3 := hcs 3 _ rfl
      have k4 := hcs 4 _ rfl
      rw [Nat.add_zero] at k0
      have hi : IntKind.i64.wrap ((n : Int) + 1) = (n : Int) + 1 := IntWalk.i64_in _ (by have := HW.out.elems.1; omega)
      have i1 : decide ((n : Int) < (M.elems.length : Int)) = true := decide_eq_true (by omega)
      have bel : Below wr.heap.size wr (wr.alloc (.cells #[.int .u8 x.mode, .int .u8 ty, .int .u32 x.table, .slice oA x.off.length oc, .slice iA x.init.length ic] 104)) := (Below.refl _ _).alloc (Nat.le_refl _) _
      have robel := bro bel h3.sm.si.sep.lt
      have HC := Lib.hid (HEE.out.2.2.1 n x hx _ S3 L3 iB mB ty oA iA oc ic (h3.still bel) (hov.mono robel (fun _ h => h) (fun _ _ hh => hh.mono robel (fun _ h => h))) (hiv.mono robel (fun _ h => h) (fun _ _ ⟨v, e, hh⟩ => ⟨v, e, hh.mono robel (fun _ h => h) (fun _ _ hh => hh.mono robel (fun _ h => h))⟩)) ((hk3 _ (by simp [Key.own]) (by simp)).trans ((HKA.out _ (by simp [Key.own]) (by simp) (by simp)).trans HK.out.1)) ((hk3 _ (by simp [Key.own]) (by simp)).trans ((HKA.out _ (by simp [Key.own]) (by simp) (by simp)).trans HK.out.2.1)))
      have H3 := Lib.hid (And.intro (ro3.trans robel hS3) (And.intro hS3 hk3))
      clear h3 ro3 hS3 hk3 hg8 hSg hcs hov hiv hx bel robel hn
      rename_i y1 y2 y3 y4 y5 y6 y7 y8 y9
      clear y1 y2 y3 y4 y5 y6 y7 y8 y9
      go_wp2_with fail
      refine HC.out.mono ?_
      rintro e w5 ⟨rfl, S5, L5, h5, ro5, hS5, hk5⟩
      have H5 := Lib.hid (show LkTo wa S2 La u iB mB M _ (stE (n + 1)).1 (stE (n + 1)).2 w5 from ⟨S5, L5, h5, H3.out.1.trans ro5 H3.out.2.1, fun b hb => hS5 b (H3.out.2.1 b hb), fun q a b => (hk5 q a b).trans (H3.out.2.2 q a b)⟩)
      clear h5 ro5 hS5 hk5
      go_wp2
      go_roundw
      case rel => exact ⟨n + 1, hlt, by go_num, H5.out⟩
      case measure => (simp [intOf]; try omega)
    · obtain rfl : n = M.elems.length := by omega
      have hd0 : decide ((M.elems.length : Int) < (M.elems.length : Int)) = false := decide_eq_false (by omega)
      have q12 := HQ.out wr ro3
      have H3 := Lib.hid (show LkTo wa S2 La u iB mB M [.slice tA M.types.length tc, .slice fA M.funcs.length fc, .slice bA M.tabs.length bc, .slice mA M.mems.length mk, .slice gA M.globs.length gc, .slice xA xn xc, .bool st, .int .u32 sn, .slice eA M.elems.length ec, .bool cs, .int .u32 cn, .slice cA M.codes.length cc, .slice dA M.datas.length dc] (stD 0).1 (stD 0).2 wr from by rw [HEE.out.2.1]; exact ⟨S3, L3, h3, ro3, hS3, hk3⟩)
      clear h3 ro3 hS3 hk3 hlt hn
      go_wp2_with fail
      go_loopw [38] (fun i wr => ∃ n : Nat, n ≤ M.datas.length ∧ i = .int .i64 n ∧ LkTo wa S2 La u iB mB M [.slice tA M.types.length tc, .slice fA M.funcs.length fc, .slice bA M.tabs.length bc, .slice mA M.mems.length mk, .slice gA M.globs.length gc, .slice xA xn xc, .bool st, .int .u32 sn, .slice eA M.elems.length ec, .bool cs, .int .u32 cn, .slice cA M.codes.length cc, .slice dA M.datas.length dc] (stD n).1 (stD n).2 wr) (fun i _ => M.datas.length - (intOf i).toNat)
      case atStart => exact ⟨0, Nat.zero_le _, rfl, H3.out⟩
      case round =>
        obtain ⟨n, hn, rfl, S3, L3, h3, ro3, hS3, hk3⟩ := hrel
        by_cases hlt : n < M.datas.length
        · have hx : M.datas[n]? = some M.datas[n] := List.getElem?_eq_getElem hlt
          generalize M.datas[n] = x at hx
          have hg8 := HDA.out.mono ro3 hS3 (fun _ _ h => h.mono ro3 hS3)
          obtain ⟨g, o, cs1, rfl, hSg, _, ⟨ov, bv, rfl, hov, hbv⟩, hcs⟩ := hg8.get n x hx
          obtain ⟨oA, oc, rfl, _, _, _, _⟩ := id hov
          obtain ⟨bA2, bc2, rfl, _, _, _, _⟩ := id hbv
          have k0 := hcs 0 _ rfl
          have k1 := hcs 1 _ rfl
          have k2 := hcs 2 _ rfl
          rw [Nat.add_zero] at k0
          have hi : IntKind.i64.wrap ((n : Int) + 1) = (n : Int) + 1 := IntWalk.i64_in _ (by have := HW.out.datas.1; omega)
          have i1 : decide ((n : Int) < (M.datas.length : Int)) = true := decide_eq_true (by omega)
          have bel : Below wr.heap.size wr (wr.alloc (.cells #[.int .u8 x.mode, .slice oA x.off.length oc, .slice bA2 x.bytes.length bc2] 71)) := (Below.refl _ _).alloc (Nat.le_refl _) _
          have robel := bro bel h3.sm.si.sep.lt
          have HC := Lib.hid (HEE.out.2.2.2.1 n x hx _ S3 L3 iB mB oA bA2 oc bc2 (h3.still bel) (hov.mono robel (fun _ h => h) (fun _ _ hh => hh.mono robel (fun _ h => h))) (hbv.mono robel (fun _ h => h) (fun _ _ hh => hh)) ((hk3 _ (by simp [Key.own]) (by simp)).trans ((HKA.out _ (by simp [Key.own]) (by simp) (by simp)).trans HK.out.1)) ((hk3 _ (by simp [Key.own]) (by simp)).trans ((HKA.out _ (by simp [Key.own]) (by simp) (by simp)).trans HK.out.2.1)))
          have H3 := Lib.hid (And.intro (ro3.trans robel hS3) (And.intro hS3 hk3))
          clear h3 ro3 hS3 hk3 hg8 hSg hcs hov hbv hx bel robel hn
          rename_i y1 y2 y3 y4 y5 y6 y7 y8 y9
          clear y1 y2 y3 y4 y5 y6 y7 y8 y9
          go_wp2_with fail
          refine HC.out.mono ?_
          rintro e w5 ⟨rfl, S5, L5, h5, ro5, hS5, hk5⟩
          have H5 := Lib.hid (show LkTo wa S2 La u iB mB M _ (stD (n + 1)).1 (stD (n + 1)).2 w5 from ⟨S5, L5, h5, H3.out.1.trans ro5 H3.out.2.1, fun b hb => hS5 b (H3.out.2.1 b hb), fun q a b => (hk5 q a b).trans (H3.out.2.2 q a b)⟩)
          clear h5 ro5 hS5 hk5
          go_wp2
          go_roundw
          case rel => exact ⟨n + 1, hlt, by go_num, H5.out⟩
          case measure => (simp [intOf]; try omega)
        · obtain rfl : n = M.datas.length := by omega
          have hd0 : decide ((M.datas.length : Int) < (M.datas.length : Int)) = false := decide_eq_false (by omega)
          have HST := Lib.hid (HEE.out.2.2.2.2 wr S3 L3 iB mB h3 ((hk3 _ (by simp [Key.own]) (by simp)).trans ((HKA.out _ (by simp [Key.own]) (by simp) (by simp)).trans HK.out.1)) ((hk3 _ (by simp [Key.own]) (by simp)).trans ((HKA.out _ (by simp [Key.own]) (by simp) (by simp)).trans HK.out.2.1)))
          have H4 := Lib.hid (And.intro ro3 (And.intro hS3 hk3))
          clear h3 ro3 hS3 hk3 hlt hn
          go_wp2_with fail
          refine HST.out.mono ?_
          rintro e w6 ⟨rfl, S6, L6, h6, ht6, hk6, ro6, hS6⟩
          have m1 := h6.sep.cell0 ht6 1 _ rfl
          have HFIN := Lib.hid (show ∀ nq, Si (w6.drewN nq) S6 L6 u iB M I' ∧ Ro S w (w6.drewN nq) ∧ (∀ b, S b → S6 b) ∧ ∀ q : Key, q.own ≠ some u → q ≠ .tmp 2 → q ≠ .tmp 3 → L6 q = L q from fun nq => ⟨⟨h6.sep.drewN nq, h6.mach, h6.cfg, h6.ins.mono ⟨⟨Nat.le_refl _, rfl, rfl⟩, fun _ _ => rfl⟩ (fun _ h => h) rfl rfl rfl (fun _ => rfl) rfl rfl rfl, h6.wf⟩, (HA.out.2.2.1.trans H4.out.1 HA.out.2.2.2).trans ro6 (fun b hb => H4.out.2.1 b (HA.out.2.2.2 b hb)), fun b hb => hS6 b (H4.out.2.1 b (HA.out.2.2.2 b hb)), fun q a b c => (hk6 q a b).trans ((H4.out.2.2 q a b).trans (HKA.out q a b c))⟩)
          clear h6 ht6 hk6 ro6 hS6
          by_cases he : er' = 0
          · have e0 : (er' == 0) = true := by rw [he]; rfl
            have HE0 := Lib.hid he
            clear he
            go_wp2
            go_ret2
            exact ⟨iB, S6, L6, .inr ⟨HE0.out, rfl⟩, HFIN.out 0⟩
          · have e0 : (er' == 0) = false := beq_eq_false_iff_ne.2 he
            have HE0 := Lib.hid he
            clear he
            go_wp2_with fail
            go_quiet (fail)
            go_wp2
            go_ret2
            exact ⟨iB, S6, L6, .inl ⟨HE0.out, rfl⟩, HFIN.out _⟩
end Go.Proofs.YtjbdldekllffkaaGreatDoor
/- LinkStarts: what the starts come to. -/
set_option linter.unusedVariables false
set_option linter.unusedSimpArgs false
namespace Go.Proofs.YtjbdldekllffkaaGreatDoor
open Go.RowKit Go.Sep Go.St
def esOf (b : List Ins) : Es := match runE b b.length with
  | some s => s.2
  | none => []
def walkB (b : List Ins) : Bool := (match runE b b.length with
  | some s => s.1.isEmpty
  | none => false) && decide (0 < b.length) && decide (opA b ((b.length - 1 : Nat) : Int) = 11) && decide (endsN b b.length = (esOf b).length + 1)
theorem walkB_ok {b : List Ins} (h : walkB b = true) : WalkOk b (esOf b) := by
  unfold walkB at h
  simp only [Bool.and_eq_true, decide_eq_true_eq] at h
  obtain ⟨⟨⟨h1, h2⟩, h3⟩, h4⟩ := h
  refine ⟨?_, h2, h3, h4⟩
  unfold esOf
  cases hr : runE b b.length with
  | none => rw [hr] at h1; simp at h1
  | some s =>
    rw [hr] at h1
    obtain ⟨a, e⟩ := s
    simp only at h1
    rw [List.isEmpty_iff.1 h1]
def optB : Option (Int × Int) → Option (Int × Int) → Bool
  | some a, some b => decide (a.1 = b.1) && decide (a.2 = b.2)
  | none, none => true
  | _, _ => false
theorem optB_eq {a b : Option (Int × Int)} (h : optB a b = true) : a = b := by
  cases a <;> cases b <;> simp [optB] at h ⊢
  exact Prod.ext h.1 h.2
def blkB (b : List Ins) : Bool := ((List.range b.length).all fun k => optB (getE (esOf b) (k : Int)) (blocksOf b (k : Int))) && (esOf b).all fun e => decide (0 ≤ e.1) && decide (e.1 < (b.length : Int)) && decide (-1000000 < e.2.1) && decide (e.2.1 < 999999) && decide (-1000000 < e.2.2) && decide (e.2.2 < 999999)
theorem getE_mem {es : Es} {k : Int} {v : Int × Int} (h : getE es k = some v) : (k, v) ∈ es := by
  induction es with
  | nil => simp [getE] at h
  | cons p r ih =>
    obtain ⟨a, x⟩ := p
    simp only [getE] at h
    split at h
    · rename_i e
      cases h
      subst e
      simp
    · exact List.mem_cons_of_mem _ (ih h)
theorem blkB_ok {b : List Ins} (h : blkB b = true) : getE (esOf b) = blocksOf b ∧ ∀ k e, getE (esOf b) k = some e → (-1000000 < e.1 ∧ e.1 < 999999) ∧ (-1000000 < e.2 ∧ e.2 < 999999) := by
  unfold blkB at h
  simp only [Bool.and_eq_true, List.all_eq_true, decide_eq_true_eq] at h
  obtain ⟨h1, h2⟩ := h
  refine ⟨?_, fun k e hk => ?_⟩
  · funext k
    by_cases hk : 0 ≤ k ∧ k < (b.length : Int)
    · have := optB_eq (h1 k.toNat (List.mem_range.2 (by omega)))
      rwa [Int.toNat_of_nonneg hk.1] at this
    · have e1 : getE (esOf b) k = none := by
        cases hg : getE (esOf b) k with
        | none => rfl
        | some v =>
          have := h2 _ (getE_mem hg)
          exact absurd ⟨this.1.1.1.1.1, this.1.1.1.1.2⟩ hk
      have e2 : blocksOf b k = none := by
        unfold blocksOf
        split
        · rfl
        · rw [List.getElem?_eq_none (by omega)]
      rw [e1, e2]
  · have := h2 _ (getE_mem hk)
    exact ⟨⟨this.1.1.1.2, this.1.1.2⟩, this.1.2, this.2⟩
def ess8 (n : Int) : List Es := (fixedBodies ++ [startB n]).map esOf
set_option maxRecDepth 100000 in
theorem walk8 (n : Int) : (fixedBodies ++ [startB n]).all walkB = true := by kernel_rfl
set_option maxRecDepth 100000 in
theorem blk8 (n : Int) : (fixedBodies ++ [startB n]).all blkB = true := by kernel_rfl
theorem fine8 (n : Int) : Fine (M8 n) (ess8 n) := by
  refine ⟨⟨by simp [M8, fixedM], fun x hx => by simp [M8, fixedM] at hx; subst hx; simp⟩, ⟨by simp [M8, fixedM], fun x hx => by simp [M8, fixedM] at hx⟩, by simp [ess8, M8, fixedM], by simp [M8, fixedM, fixedBodies], fun k c es hc he => ?_⟩
  have hc : ((fixedBodies ++ [startB n]).map fun b => (⟨[], b⟩ : Cd))[k]? = some c := hc
  rw [List.getElem?_map] at hc
  unfold ess8 at he
  rw [List.getElem?_map] at he
  cases hb : (fixedBodies ++ [startB n])[k]? with
  | none => rw [hb] at hc; cases hc
  | some b =>
    rw [hb] at hc he
    cases hc
    cases he
    exact walkB_ok (List.all_eq_true.1 (walk8 n) b (List.mem_of_getElem? hb))
theorem new8 (n : Int) : newI (M8 n) (ess8 n) = I8 n 0 := by
  have e1 : (ess8 n).map getE = (fixedBodies ++ [startB n]).map blocksOf := by
    unfold ess8
    rw [List.map_map]
    exact List.map_congr_left fun b hb => (blkB_ok (List.all_eq_true.1 (blk8 n) b hb)).1
  have e2 : memC (M8 n) = memX := by
    unfold memX
    show List.replicate (Int.toNat 1 * 65536) 0 = _
    rw [show Int.toNat 1 * 65536 = 65536 by decide]
  show ({ blocks := (ess8 n).map getE, mem := memC (M8 n), tabs := tabsC [], glo := [valueC [ins 65, ins 11]], els := [], das := [] } : In) = _
  rw [e1, e2]
  rfl
theorem bk8 (n g : Int) : BkInv (I8 n g).blocks := by
  refine ⟨fun bf hbf => ?_⟩
  have hbf : bf ∈ (fixedBodies ++ [startB n]).map blocksOf := hbf
  obtain ⟨b, hb, rfl⟩ := List.mem_map.1 hbf
  obtain ⟨h1, h2⟩ := blkB_ok (List.all_eq_true.1 (blk8 n) b hb)
  intro a e h
  rw [← h1] at h
  exact h2 a e h
def insB (x : Ins) : Bool := decide (0 ≤ x.op) && decide (x.op < 1000000) && decide (0 ≤ x.a) && decide (x.a < 4294967296) && decide (0 ≤ x.b) && decide (x.b < 4294967296) && decide (0 ≤ x.n) && decide (x.n < 18446744073709551616) && decide (-1000000 < x.t) && decide (x.t < 1000000) && x.l.isEmpty
theorem insB_ok {x : Ins} (h : insB x = true) : Ins.wf x := by
  unfold insB at h
  simp only [Bool.and_eq_true, decide_eq_true_eq] at h
  obtain ⟨⟨⟨⟨⟨⟨⟨⟨⟨⟨a, b⟩, c⟩, d⟩, e⟩, f⟩, g⟩, i⟩, j⟩, k⟩, l⟩ := h
  have l := List.isEmpty_iff.1 l
  exact ⟨⟨a, b⟩, ⟨c, d⟩, ⟨e, f⟩, ⟨g, i⟩, ⟨j, k⟩, fun y hy => by rw [l] at hy; simp at hy, by rw [l]; simp⟩
theorem ins_all : (fixedBodies.all fun b => b.all insB) = true := by kernel_rfl
theorem body_small {b : List Ins} {n : Int} (hb : b ∈ fixedBodies ++ [startB n]) : b.length ≤ 100 := by
  rcases List.mem_append.1 hb with hb | hb
  · have : (fixedBodies.all fun b => decide (b.length ≤ 100)) = true := by kernel_rfl
    exact of_decide_eq_true (List.all_eq_true.1 this b hb)
  · simp at hb
    subst hb
    simp [startB]
theorem wf8 (n : Int) (hn : 0 ≤ n ∧ n < 4294967296) : Wf (M8 n) := by
  have hb : ∀ b ∈ fixedBodies ++ [startB n], ∀ x ∈ b, Ins.wf x := by
    intro b hb x hx
    rcases List.mem_append.1 hb with hb | hb
    · exact insB_ok (List.all_eq_true.1 (List.all_eq_true.1 ins_all b hb) x hx)
    · simp at hb
      subst hb
      simp only [startB, List.mem_cons, List.not_mem_nil, or_false] at hx
      rcases hx with rfl | rfl | rfl | rfl
      · exact ⟨by simp [ins], by simp [ins], by simp [ins], by simp only [ins]; omega, by simp [ins], fun y hy => by simp [ins] at hy, by simp [ins]⟩
      · exact insB_ok (by decide)
      · exact insB_ok (by decide)
      · exact insB_ok (by decide)
  refine ⟨fun x hx => ?_, fun t ht => ?_, by simp [M8, fixedM], fun c hc => ?_, fun x hx => ?_, ⟨by simp [M8, fixedM], fun l hl x hx => ?_⟩, ⟨by simp [M8, fixedM], fun e he => by simp [M8, fixedM] at he⟩, ⟨by simp [M8, fixedM], fun d hd => by simp [M8, fixedM] at hd⟩⟩
  · simp [M8, fixedM] at hx
    omega
  · simp [M8, fixedM] at ht
    rcases ht with rfl | rfl | rfl | rfl <;> simp
  · have hc : c ∈ (fixedBodies ++ [startB n]).map fun b => (⟨[], b⟩ : Cd) := hc
    obtain ⟨b, hbm, rfl⟩ := List.mem_map.1 hc
    exact ⟨by have := body_small hbm; simp; omega, by simp, hb b hbm⟩
  · simp [M8, fixedM] at hx
    subst hx
    simp
  · simp [M8, fixedM] at hl
    subst hl
    simp only [List.mem_cons, List.not_mem_nil, or_false] at hx
    rcases hx with rfl | rfl
    · exact insB_ok (by decide)
    · exact insB_ok (by decide)
theorem bl9 (n g : Int) : (I8 n g).blocks.length = 9 := by simp [I8, fixedI, fixedBodies]
theorem cinv0 (M : Mo) : CInv M 9 1 cf0 := ⟨by simp [cf0], fun x hx => by simp [cf0] at hx, by simp [cf0], fun f hf => by simp [cf0] at hf⟩
theorem good8 (n : Int) (hn : 0 ≤ n ∧ n < 4294967296) (f : Nat) (hf : f < 4294967296) : Good (M8 n) 9 1 (openC (M8 n) 9 cf0 f [], I8 n 0) :=
  ⟨bk8 n 0, bl9 n 0, fun x hx => by simp [I8, fixedI] at hx; omega, cinv_open (wf8 n hn) (cinv0 _) hf (fun x hx => by simp at hx) (Nat.le_refl _)⟩
/-- What the start comes to, by which function it is. -/
def came (n : Nat) (f : Nat) (N : Nat) (er g : Int) (ok : Prop) : Prop := ∃ st : Nat → Cf × In, st 0 = (openC (M8 n) 9 cf0 f [], I8 n 0) ∧ (∀ k, k < N → StepOk (M8 n) (st k) (st (k + 1))) ∧ N ≤ 1000 ∧ ((st N).1.ov = true ∨ 1000 ≤ N) ∧ (endOf (st N).1).er = er ∧ (ok → (st N).2 = I8 n g)
theorem came3 (n : Nat) (hn : n < 256) : came n 3 5 7 1000 True := by
  obtain ⟨st, h0, h1, h2⟩ := runs_st (wf8 n (by omega)) (good8 n (by omega) 3 (by omega)) (Nat.le_refl _) (by omega) (run3 n)
  exact ⟨st, h0, h2, by omega, .inl (by rw [h1]; rfl), by rw [h1]; rfl, fun _ => by rw [h1]⟩
theorem came7 (n : Nat) (hn : n < 256) : came n 7 96 8 5 True := by
  obtain ⟨st, h0, h1, h2⟩ := runs_st (wf8 n (by omega)) (good8 n (by omega) 7 (by omega)) (Nat.le_refl _) (by omega) (run7 n)
  exact ⟨st, h0, h2, by omega, .inl (by rw [h1]; rfl), by rw [h1]; rfl, fun _ => by rw [h1]⟩
theorem came2 (n : Nat) (hn : n < 256) : came n 2 1000 8 99 True := by
  have hr := runs_add (start2 n) (spins2 n 997)
  obtain ⟨st, h0, h1, h2⟩ := runs_st (wf8 n (by omega)) (good8 n (by omega) 2 (by omega)) (Nat.le_refl _) (by omega) hr
  exact ⟨st, h0, h2, by omega, .inr (by omega), by rw [h1]; rfl, fun _ => by rw [h1]; rfl⟩
theorem came8 (n : Nat) (hn : n < 256) : (12 * n + 11 ≤ 1000 ∧ came n 8 (12 * n + 11) 0 n True) ∨ (1000 < 12 * n + 11 ∧ came n 8 1000 8 0 False) := by
  obtain ⟨st, h0, h1, h2⟩ := runs_st (wf8 n (by omega)) (good8 n (by omega) 8 (by omega)) (Nat.le_refl _) (by omega) (run8 n (by omega))
  by_cases h : 12 * n + 11 ≤ 1000
  · exact .inl ⟨h, st, h0, h2, h, .inl (by rw [h1]), by rw [h1]; rfl, fun _ => by rw [h1]⟩
  · refine .inr ⟨by omega, st, h0, fun k hk => h2 k (by omega), Nat.le_refl _, .inr (Nat.le_refl _), ?_, fun hf => hf.elim⟩
    obtain ⟨_, _, _, _, _, _, _, hov, _⟩ := h2 1000 (by omega)
    unfold endOf
    rw [hov]
    rfl
theorem startOk8 {u : Nat} {mc : List Value} (n f N : Nat) (hf : f < 4294967296) {er g : Int} {ok : Prop} (h6 : mc[6]? = some (.bool true)) (h7 : mc[7]? = some (.int .u32 (f : Int))) (hc : came n f N er g ok) : ∃ I', StartOk u (M8 n) mc (I8 n 0) 0 I' er ∧ (ok → I' = I8 n g) := by
  obtain ⟨st, h0, hs, hN, hend, her, hI⟩ := hc
  refine ⟨(st N).2, fun w S L iB mB h t0 t1 => ?_, hI⟩
  obtain ⟨r, hr, hr2⟩ := h.sm.ins
  have c6 := h.sm.si.sep.cell0 hr 6 (.bool true) (by rw [List.getElem?_append_left (List.getElem?_eq_some_iff.1 h6).1]; exact h6)
  have c7 := h.sm.si.sep.cell0 hr 7 (.int .u32 (f : Int)) (by rw [List.getElem?_append_left (List.getElem?_eq_some_iff.1 h7).1]; exact h7)
  rw [← her]
  exact starts_c h.sm.si t0 t1 h.mkr f hf c6 c7 st (by rw [bl9]; exact h0) N hs (.inl (by omega)) (by rcases hend with h | h; exact .inl h; exact .inr (by omega))
end Go.Proofs.YtjbdldekllffkaaGreatDoor
