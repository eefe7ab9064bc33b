/- VM: regions that are drawn (first part): what an operation hangs on of the temporaries. -/
import Derived.Test.YtpbnbgjclalpeaaDoorVmLocEv
set_option linter.unusedVariables false
set_option linter.unusedSimpArgs false
namespace Go.Vm
theorem evs_congr {t t' : Tm} : ∀ (l : List Operand), (∀ x ∈ l, Tm.ev x t = Tm.ev x t') → evs t l = evs t' l
  | [], _ => rfl
  | x :: l, h => by
    simp only [evs, h x List.mem_cons_self, evs_congr l fun y hy => h y (List.mem_cons_of_mem _ hy)]
theorem evp_congr {t t' : Tm} : ∀ (l : List (Nat × Operand)), (∀ x ∈ l.map (·.2), Tm.ev x t = Tm.ev x t') → evp t l = evp t' l
  | [], _ => rfl
  | x :: l, h => by
    simp only [evp, h x.2 List.mem_cons_self, evp_congr l fun y hy => h y (List.mem_cons_of_mem _ hy)]
theorem evo_congr {t t' : Tm} (x : Option Operand) (h : ∀ y ∈ x, Tm.ev y t = Tm.ev y t') : evo t x = evo t' x := by
  cases x with
  | none => rfl
  | some x => simp only [evo, h x rfl]
theorem vop0_congr (cx : Cx) {t t' : Tm} (op : Op) (h : ∀ x ∈ op.operands.toList, Tm.ev x t = Tm.ev x t') : vop0 op cx t = vop0 op cx t' := by
  cases op with
  | move x => have := h x (by simp [Op.operands]); simp only [vop0, opMove, this]
  | assign x => have := h x (by simp [Op.operands]); simp only [vop0, opMove, this]
  | pick c x y =>
    have h1 := h c (by simp [Op.operands])
    have h2 := h x (by simp [Op.operands])
    have h3 := h y (by simp [Op.operands])
    simp only [vop0, opPick, h1, h2, h3]
  | alloc e => rfl
  | box e x => have := h x (by simp [Op.operands]); simp only [vop0, opBox, this]
  | build bt ps =>
    have := evp_congr ps.toList (fun x hx => h x (by simpa [Op.operands] using hx))
    simp only [vop0, opBuild, this]
  | buildSlice bt n ps =>
    have := evp_congr ps.toList (fun x hx => h x (by simpa [Op.operands] using hx))
    simp only [vop0, opBuildSlice, this]
  | load ty x => have := h x (by simp [Op.operands]); simp only [vop0, opLoad, this]
  | store ty x y =>
    have h1 := h x (by simp [Op.operands])
    have h2 := h y (by simp [Op.operands])
    simp only [vop0, opStore, h1, h2]
  | nilCheck x => have := h x (by simp [Op.operands]); simp only [vop0, opNil, this]
  | binOp op ty x y yt =>
    have h1 := h x (by simp [Op.operands])
    have h2 := h y (by simp [Op.operands])
    simp only [vop0, opBin, h1, h2]
  | unOp op ty x => have := h x (by simp [Op.operands]); simp only [vop0, opUn, this]
  | convert s d x => have := h x (by simp [Op.operands]); simp only [vop0, opConv, this]
  | makeInterface ty x => have := h x (by simp [Op.operands]); simp only [vop0, opIface, this]
  | makeFunc f a b =>
    have h1 := evs_congr a.toList (fun x hx => h x (by simp only [Op.operands, Array.toList_append, List.mem_append]; exact .inl hx))
    have h2 := evs_congr b.toList (fun x hx => h x (by simp only [Op.operands, Array.toList_append, List.mem_append]; exact .inr hx))
    cases f <;> simp only [vop0, opFunc1, opFunc, h1, h2]
  | makeMap ty r => cases r <;> rfl
  | makeSlice ty l c =>
    have h1 := h l (by simp [Op.operands])
    have h2 := h c (by simp [Op.operands])
    simp only [vop0, opMakeSlice, h1, h2]
  | slice ty x lo hi mx =>
    have h1 := h x (by simp [Op.operands])
    have h2 := evo_congr lo (fun y hy => h y (by simp [Op.operands]; exact .inr (.inl hy)))
    have h3 := evo_congr hi (fun y hy => h y (by simp [Op.operands]; exact .inr (.inr (.inl hy))))
    have h4 := evo_congr mx (fun y hy => h y (by simp [Op.operands]; exact .inr (.inr (.inr hy))))
    simp only [vop0, opSlice, h1, h2, h3, h4]
  | fieldAddr ty x f => have := h x (by simp [Op.operands]); simp only [vop0, opFieldAddr, this]
  | field ty x f => have := h x (by simp [Op.operands]); simp only [vop0, opField, this]
  | indexAddr ty x i =>
    have h1 := h x (by simp [Op.operands])
    have h2 := h i (by simp [Op.operands])
    simp only [vop0, opIndexAddr, h1, h2]
  | lookup ty x i ok =>
    have h1 := h x (by simp [Op.operands])
    have h2 := h i (by simp [Op.operands])
    simp only [vop0, opLookup, h1, h2]
  | mapUpdate ty m k x =>
    have h1 := h m (by simp [Op.operands])
    have h2 := h k (by simp [Op.operands])
    have h3 := h x (by simp [Op.operands])
    simp only [vop0, opMapUpd, h1, h2, h3]
  | insert ty m k x =>
    have h1 := h m (by simp [Op.operands])
    have h2 := h k (by simp [Op.operands])
    have h3 := h x (by simp [Op.operands])
    simp only [vop0, opMapUpd, h1, h2, h3]
  | extract x i => have := h x (by simp [Op.operands]); simp only [vop0, opExtract, this]
  | call c =>
    obtain ⟨callee, args, tys⟩ := c
    have h1 := evs_congr args.toList (fun x hx => h x (by cases callee <;> simp [Op.operands, Call.operands] <;> simp at hx <;> first | exact hx | exact .inr hx | exact .inl hx))
    cases callee with
    | value f =>
      have h2 := h f (by simp [Op.operands, Call.operands])
      simp only [vop0, opCall, h1, calleeV, h2]
    | invoke rv nm => simp only [vop0, opCall, h1, calleeV]
    | builtin b => simp only [vop0, opCall, h1, calleeV]
  | _ => rfl
theorem vop_congr (cx : Cx) {t t' : Tm} (op : Op) (h : ∀ x ∈ op.operands.toList, Tm.ev x t = Tm.ev x t') : vop op cx t = vop op cx t' := by
  unfold vop
  rw [vop0_congr cx op h]
theorem ev_congr {t t' : Tm} (x : Operand) (h : ∀ d, x = .tmp d → t.get d = t'.get d) : Tm.ev x t = Tm.ev x t' := by
  cases x with
  | tmp i => show some (orU (t.get i)) = some (orU (t'.get i)); rw [h i rfl]
  | _ => rfl
/-- By what an operation looks at. -/
theorem vop_looks (cx : Cx) {t t' : Tm} (ops : Array Oper) (o : Oper) (h : ∀ d ∈ o.looksAt ops, t.get d = t'.get d) : vop o.op cx t = vop o.op cx t' := by
  refine vop_congr cx o.op fun x hx => ev_congr x fun d hd => h d ?_
  subst hd
  unfold Oper.looksAt
  refine List.mem_append_left _ (List.mem_filterMap.2 ⟨.tmp d, hx, rfl⟩)
theorem wanted_looks (cx : Cx) {t t' : Tm} (ops : Array Oper) (o : Oper) (h : ∀ d ∈ o.looksAt ops, t.get d = t'.get d) : wanted o.guard ops.toList cx t = wanted o.guard ops.toList cx t' := by
  cases hg : o.guard with
  | none => rfl
  | some g =>
    obtain ⟨j, want⟩ := g
    show guardT ops.toList cx t j want = guardT ops.toList cx t' j want
    unfold guardT
    rw [dstOf_eq, Array.getElem?_toList]
    cases hd : (ops[j]?).bind (·.dst) with
    | none => rfl
    | some d =>
      have : t.get d = t'.get d := h d (by
        unfold Oper.looksAt
        refine List.mem_append_right _ ?_
        simp only [hg, hd]
        simp)
      simp only [this]
end Go.Vm
