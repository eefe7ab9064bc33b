/- VM: its operations are the model's, one by one (third part): structs, arrays and slices that are built. -/
import Derived.Test.YtpbnbgjclalpeaaDoorVmOpB
set_option linter.unusedVariables false
set_option linter.unusedSimpArgs false
namespace Go.Vm
open Go.RowKit
open Go.Builtin (zeroCells)
section ops
variable {env : Nat → Int} {n0 : Nat} {P : Program} {M : Mp} {h : Tr Ob} {w : World} {cx : Cx}

theorem lay_toList (xs : List Value) (c : Array Value) (i : Nat) (hi : i + xs.length ≤ c.size) : (lay c i xs).toList = c.toList.take i ++ xs ++ c.toList.drop (i + xs.length) := by
  apply List.ext_getElem?
  intro k
  have h1 : (lay c i xs).toList[k]? = (lay c i xs)[k]? := by simp
  rw [h1, lay_get xs c i k hi]
  by_cases a : k < i
  · rw [if_neg (by omega), List.append_assoc, List.getElem?_append_left (by simp; omega), List.getElem?_take, if_pos a]; simp
  · by_cases b : k < i + xs.length
    · rw [if_pos ⟨by omega, b⟩, List.append_assoc, List.getElem?_append_right (by simp; omega), List.getElem?_append_left (by simp; omega)]
      congr 1; simp; omega
    · rw [if_neg (by omega), List.getElem?_append_right (by simp; omega), List.getElem?_drop]
      have : (c.toList.take i ++ xs).length = i + xs.length := by simp; omega
      rw [this, show i + xs.length + (k - (i + xs.length)) = k by omega]; simp
theorem fold_lay (off : Nat) : ∀ (xs : List Value) (c : Array Value) (j : Nat), (xs.zipIdx j).foldl (fun (cs : Array Value) (p : Value × Nat) => cs.setIfInBounds (off + p.2) p.1) c = lay c (off + j) xs
  | [], c, j => rfl
  | x :: xs, c, j => by
    rw [List.zipIdx_cons, List.foldl_cons, fold_lay off xs, lay]
    rfl
theorem fold_lay' (off : Nat) (v c : Array Value) : v.zipIdx.foldl (fun (cs : Array Value) (p : Value × Nat) => cs.setIfInBounds (off + p.2) p.1) c = lay c off v.toList := by
  rw [← Array.foldl_toList, Array.toList_zipIdx]
  exact fold_lay off v.toList c 0
/-- Parts laid into cells. -/
theorem fill_of (place place' : Nat → Option (Nat × Nat)) (hp : ∀ i p, place i = some p → place' i = some p) : ∀ (ps : List (Nat × V)) (ps' : List (Nat × Value)) (cs : List V) (c : Array Value) (out : List V),
    ps.map (·.1) = ps'.map (·.1) → VRs env M (ps.map (·.2)) (ps'.map (·.2)) → VRs env M cs c.toList → vfill place ps cs = some out →
    ∃ c', Instr.fill place' c ps' = some c' ∧ VRs env M out c'.toList
  | [], [], cs, c, out, _, _, hc, e => by cases e; exact ⟨c, rfl, hc⟩
  | [], _ :: _, _, _, _, h1, _, _, _ => by simp at h1
  | _ :: _, [], _, _, _, h1, _, _, _ => by simp at h1
  | (i, v) :: ps, (i', x) :: ps', cs, c, out, h1, h2, hc, e => by
    simp only [List.map_cons, List.cons.injEq] at h1
    obtain ⟨rfl, h1⟩ := h1
    cases h2 with
    | cons _ _ _ _ hv h2 =>
      have e' : fill1 (place i) (cellsV v) cs (vfill place ps) = some out := e
      cases hpl : place i with
      | none => rw [hpl] at e'; cases e'
      | some p =>
        rw [hpl] at e'
        have hcv := hv.cells
        have e2 : (match Nat.beq (cellsV v).length p.2 && Nat.ble (Nat.add p.1 p.2) cs.length with | true => vfill place ps (fillAt cs p.1 (cellsV v)) | false => none) = some out := e'
        cases hb : (Nat.beq (cellsV v).length p.2 && Nat.ble (Nat.add p.1 p.2) cs.length) with
        | false => rw [hb] at e2; cases e2
        | true =>
          rw [hb] at e2
          rw [Bool.and_eq_true] at hb
          have hb1 : (cellsV v).length = p.2 := Nat.eq_of_beq_eq_true hb.1
          have hb2 : p.1 + p.2 ≤ cs.length := Nat.le_of_ble_eq_true hb.2
          have hcl := hcv.length
          have hcs := hc.length
          have hsz : x.cells.size = p.2 := by rw [← hb1, hcl]; simp
          have hcc : c.size = cs.length := by rw [hcs]; simp
          have hl := lay_toList x.cells.toList c p.1 (by simp; omega)
          obtain ⟨c', f1, f2⟩ := fill_of place place' hp ps ps' (fillAt cs p.1 (cellsV v)) (lay c p.1 x.cells.toList) out h1 h2 (by
            rw [hl]
            unfold fillAt
            rw [show (cellsV v).length = x.cells.toList.length by rw [hcl]]
            exact ((hc.take _).append hcv).append (hc.drop _)) e2
          refine ⟨c', ?_, f2⟩
          simp only [Instr.fill, hp i p hpl]
          rw [if_neg (by simp; omega), fold_lay']
          exact f1

theorem allSized_eq (cx : Cx) (fs : List (TypeId × Nat × Bool)) (e : allSized cx fs = true) : ∀ f ∈ fs, ∃ n, tsize cx f.1 = some n := by
  induction fs with
  | nil => intro f hf; cases hf
  | cons f fs ih =>
    intro g hg
    have h2 : (Bool.rec false (allSized cx fs) (isS (tsize cx f.1)) : Bool) = true := e
    cases ht : tsize cx f.1 with
    | none => rw [ht] at h2; cases h2
    | some n =>
      rw [ht] at h2
      rcases List.mem_cons.1 hg with rfl | hg
      · exact ⟨n, ht⟩
      · exact ih h2 g hg
theorem mapM_run {α β : Type} (f : α → Sem β) (g : α → β) (l : List α) (w : World) (hf : ∀ x ∈ l, (f x).run P w = .ok (g x) w) : (l.mapM f).run P w = .ok (l.map g) w := by
  induction l with
  | nil => rfl
  | cons x l ih =>
    simp only [List.mapM_cons, Sem.run_bind, hf x (by simp), Result.andThen_ok, ih (fun y hy => hf y (by simp [hy])), List.map_cons]
    rfl
theorem mapMA_run {α β : Type} (f : α → Sem β) (g : α → β) (a : Array α) (w : World) (hf : ∀ x ∈ a.toList, (f x).run P w = .ok (g x) w) : (a.mapM f).run P w = .ok (a.map g) w := by
  rw [Array.mapM_eq_mapM_toList, Sem.run_map, mapM_run f g a.toList w hf, Result.andThen_ok]
  rw [← Array.toList_map]
/-- A struct or an array is built. -/
theorem build_snd (hT : TabOk P cx) (r : Rel env n0 M h w) {ps : List (Nat × V)} {ps' : Array (Nat × Value)} (h1 : ps.map (·.1) = ps'.toList.map (·.1)) (h2 : VRs env M (ps.map (·.2)) (ps'.toList.map (·.2))) (t : TypeId) :
    SndV env n0 P M h w (vbuild (cx.ty.get t) cx ps) (Instr.build t ps') := by
  cases ht : cx.ty.get t with
  | none => exact Snd.bad
  | some ti =>
    have ok := hT t ti ht
    show SndV env n0 P M h w (match zeroAgg ti.zero with | some z => build2 ti.k cx ps z | none => .bad 22) _
    cases hz : zeroAgg ti.zero with
    | none => exact Snd.bad
    | some z =>
      have hz' : ti.zero = some (.agg z) := by
        match hh : ti.zero, hz with
        | some (.agg z), hz => cases hz; rfl
      obtain ⟨x, x1, x2⟩ := ok.run_zero (w := w) hz'
      have hzx := (x2 env M).cells
      have hk := ok.k
      show SndV env n0 P M h w (build2 ti.k cx ps z) _
      cases hkk : ti.k with
      | struct fs =>
        rw [hkk] at hk
        obtain ⟨fields, hu, hfs⟩ := hk
        show SndV env n0 P M h w (match allSized cx fs with | true => aggO (vfill (placeS cx fs) ps z) | false => .bad 20) _
        cases hall : allSized cx fs with
        | false => exact Snd.bad
        | true =>
          show SndV env n0 P M h w (aggO (vfill (placeS cx fs) ps z)) _
          cases hf : vfill (placeS cx fs) ps z with
          | none => exact Snd.bad
          | some out =>
            have hsz : ∀ fd ∈ fields.toList, ∃ n, tsize cx fd.type = some n := by
              intro fd hfd
              exact allSized_eq cx fs hall (fd.type, fd.offset, fd.name == "_") (by rw [hfs]; exact List.mem_map.2 ⟨fd, hfd, rfl⟩)
            let g : Field → Nat × Nat := fun fd => (fd.offset, (tsize cx fd.type).getD 0)
            have hm := mapMA_run (P := P) (fun fd : Field => (do pure (fd.offset, ← sizeOf fd.type) : Sem (Nat × Nat))) g fields w (by
              intro fd hfd
              obtain ⟨n, hn⟩ := hsz fd hfd
              simp only [Sem.run_bind, tsize_ok hT hn w, Result.andThen_ok, Sem.run_pure, g, hn, Option.getD_some])
            obtain ⟨c', f1, f2⟩ := fill_of (env := env) (M := M) (placeS cx fs) (fun i => (fields.map g)[i]?) (by
              intro i p hp
              unfold placeS at hp
              cases hfa : fldAt fs i with
              | none => rw [hfa] at hp; cases hp
              | some y =>
                obtain ⟨fd, hfd, rfl⟩ := field_of hfs hfa
                rw [hfa] at hp
                cases hts : tsize cx fd.type with
                | none => simp only [hts] at hp; cases hp
                | some n =>
                  simp only [hts] at hp
                  cases hp
                  simp [hfd, g, hts]) ps ps'.toList z x.cells out h1 h2 hzx hf
            refine Snd.ret r ?_ (VR.agg _ c' f2)
            simp only [Instr.build, Sem.run_bind, x1, Result.andThen_ok, run_und hu]
            rw [hm]
            simp only [Result.andThen_ok, f1, Sem.run_pure]
      | array n e =>
        rw [hkk] at hk
        have hu : P.underlying t = some (.array n e) := hk
        show SndV env n0 P M h w (match tsize cx e with | some n => aggO (vfill (placeN n) ps z) | none => .bad 21) _
        cases hts : tsize cx e with
        | none => exact Snd.bad
        | some sz =>
          show SndV env n0 P M h w (aggO (vfill (placeN sz) ps z)) _
          cases hf : vfill (placeN sz) ps z with
          | none => exact Snd.bad
          | some out =>
            obtain ⟨c', f1, f2⟩ := fill_of (env := env) (M := M) (placeN sz) (fun i => some (i * sz, sz)) (fun i p hp => hp) ps ps'.toList z x.cells out h1 h2 hzx hf
            refine Snd.ret r ?_ (VR.agg _ c' f2)
            simp only [Instr.build, Sem.run_bind, x1, Result.andThen_ok, run_und hu, tsize_ok hT hts w, f1, Sem.run_pure]
      | _ => exact Snd.bad

/-- The cells of so many zero values. -/
theorem zeros_of (x : Value) (n : Nat) : (List.replicate n x.cells.toList).flatten = (zeroCells x.cells n).toList := by
  have hlen : (zeroCells x.cells n).size = n * x.cells.size := by simp [zeroCells]
  apply List.ext_getElem?
  intro k
  by_cases hk : k < n * x.cells.size
  · have hpos : 0 < x.cells.size := by
      rcases Nat.eq_zero_or_pos x.cells.size with e | e
      · rw [e] at hk; omega
      · exact e
    have h2 : (zeroCells x.cells n).toList[k]? = x.cells[k % x.cells.size]? := by
      have hm : k % x.cells.size < x.cells.size := Nat.mod_lt _ hpos
      simp [zeroCells, hk, hm]
    rw [h2]
    clear h2 hlen
    induction n generalizing k with
    | zero => omega
    | succ n ih =>
      rw [List.replicate_succ, List.flatten_cons]
      by_cases hk2 : k < x.cells.size
      · rw [List.getElem?_append_left (by simpa using hk2), Nat.mod_eq_of_lt hk2]; simp
      · rw [List.getElem?_append_right (by simpa using Nat.le_of_not_lt hk2)]
        have := ih (k - x.cells.size) (by rw [Nat.add_mul] at hk; omega)
        rw [show k - x.cells.toList.length = k - x.cells.size by simp, this]
        congr 1
        exact (Nat.mod_eq_sub_mod (by omega)).symm
  · rw [List.getElem?_eq_none (by simp; omega), List.getElem?_eq_none (by simp only [Array.length_toList, hlen]; omega)]
theorem rep_zeros {z : V} {x : Value} (hz : VR env M z x) (n : Nat) : VRs env M (RL.rep n (cellsV z)).toList (zeroCells x.cells n).toList := by
  rw [RL.toList_rep, ← zeros_of x n]
  induction n with
  | zero => exact .nil
  | succ n ih => rw [List.replicate_succ, List.replicate_succ, List.flatten_cons, List.flatten_cons]; exact hz.cells.append ih
theorem range_zeros (c : Array Value) (n : Nat) : (Array.range (n * c.size)).map (fun i => c[i % c.size]!) = zeroCells c n := rfl
/-- A new row, and a slice over all of it or its begin. -/
theorem row_slice (r : Rel env n0 M h w) {cs : RL V} {xs : List Value} (hx : VRs env M cs.toList xs) (rest : Array Value) (e e' : TypeId) (es : Nat) (ex : Bool) (hex : ex = true → rest.size = 0) (l c c' : Nat)
    (hlc : l ≤ c) (hcc : c ≤ c') (hb : c' * es ≤ xs.length + rest.size) {s : Sem Value} {w1 : World} (hw1 : w1.heap = w.heap) (hbel : Below n0 w w1)
    (hs : s.run P w = .ok (.slice (some ⟨w.heap.size, 0, none⟩) l c') { w1 with heap := w.heap.push (.cells (xs.toArray ++ rest) e' (0, 0)) }) :
    SndV env n0 P M h w (vnew e es cs ex (sliceTo l c)) s := by
  intro nx lg a h' nx' lg' hn hr
  obtain ⟨h1, h2, h3⟩ := new_row r (xs := xs) hn hr hx rest hex e'
  obtain ⟨e4, e5⟩ := run_ret h1
  cases e5; subst e4
  refine ⟨_, _, _, hs, Mp.le_add h2, h3.same rfl, ?_, ?_, by omega⟩
  · exact VR.sl nx 0 l c c' _ _ (add_self _ _ _) hcc (by simpa using hb) (.inl rfl) hlc
  · refine hbel.trans ?_
    have := push_below (n0 := n0) (w := w1) (by rw [hw1]; exact r.size) (.cells (xs.toArray ++ rest) e' (0, 0))
    rwa [hw1] at this
theorem buildSlice_snd (hT : TabOk P cx) (r : Rel env n0 M h w) {ps : List (Nat × V)} {ps' : Array (Nat × Value)} (h1 : ps.map (·.1) = ps'.toList.map (·.1)) (h2 : VRs env M (ps.map (·.2)) (ps'.toList.map (·.2))) (t : TypeId) (len : Nat) :
    SndV env n0 P M h w (vbuildSlice (tk cx t) cx len ps) (Instr.buildSlice t len ps') := by
  have hk := tk_ok hT t
  cases hkk : tk cx t with
  | slice e =>
    rw [hkk] at hk
    have hu : P.underlying t = some (.slice e) := hk
    show SndV env n0 P M h w (bsl2 (cx.ty.get e) e len ps) _
    cases ht : cx.ty.get e with
    | none => exact Snd.bad
    | some ti =>
      have ok := hT e ti ht
      show SndV env n0 P M h w (match ti.zero with | some z => bsl3 (vfill (placeN ti.size) ps (RL.rep len (cellsV z)).toList) e len ti.size (cellsV z).length | none => .bad 25) _
      cases hz : ti.zero with
      | none => exact Snd.bad
      | some z =>
        obtain ⟨x, x1, x2⟩ := ok.run_zero (w := w) hz
        have hxz := x2 env M
        have hzr := rep_zeros hxz len
        show SndV env n0 P M h w (bsl3 (vfill (placeN ti.size) ps (RL.rep len (cellsV z)).toList) e len ti.size (cellsV z).length) _
        cases hf : vfill (placeN ti.size) ps (RL.rep len (cellsV z)).toList with
        | none => exact Snd.bad
        | some out =>
          show SndV env n0 P M h w (match Nat.ble (Nat.mul len ti.size) 65536 && Nat.beq (cellsV z).length ti.size with | true => vnew e ti.size (RL.ofList out) true (sliceTo len len) | false => .bad 23) _
          cases hb : (Nat.ble (Nat.mul len ti.size) 65536 && Nat.beq (cellsV z).length ti.size) with
          | false => exact Snd.bad
          | true =>
            rw [Bool.and_eq_true] at hb
            have hb1 : len * ti.size ≤ 65536 := Nat.le_of_ble_eq_true hb.1
            have hb2 : (cellsV z).length = ti.size := Nat.eq_of_beq_eq_true hb.2
            have hxs : x.cells.size = ti.size := by have := hxz.cells.length; rw [← hb2, this]; simp
            obtain ⟨c', f1, f2⟩ := fill_of (env := env) (M := M) (placeN ti.size) (fun i => some (i * ti.size, ti.size)) (fun i p hp => hp) ps ps'.toList _ (zeroCells x.cells len) out h1 h2 hzr hf
            have hcl : c'.toList.length = len * ti.size := by
              have hfl : ∀ (place : Nat → Option (Nat × Nat)) (ps : List (Nat × Value)) (c c' : Array Value), Instr.fill place c ps = some c' → c'.size = c.size := by
                intro place ps
                induction ps with
                | nil => intro c c' e; simp only [Instr.fill] at e; cases e; rfl
                | cons p ps ih =>
                  intro c c' e
                  simp only [Instr.fill] at e
                  split at e
                  · cases e
                  · split at e
                    · cases e
                    · rw [ih _ _ e, fold_lay', lay_size]
              have := hfl _ _ _ _ f1
              simp only [Array.length_toList, this]
              simp [zeroCells, hxs]
            refine row_slice r (by rw [RL.toList_ofList]; exact f2) #[] e e ti.size true (fun _ => rfl) len len len (Nat.le_refl _) (Nat.le_refl _) (by rw [hcl]; simp) rfl (Below.refl _ _) ?_
            simp only [Instr.buildSlice, Sem.run_bind, run_und hu, Result.andThen_ok, ok.run_size]
            rw [if_neg (by omega)]
            by_cases h0 : len * ti.size = 0
            · rw [if_pos h0]
              have hz0 : (Array.range (len * ti.size)).map (fun i => (#[] : Array Value)[i % (#[] : Array Value).size]!) = zeroCells x.cells len := by
                simp [zeroCells, hxs, h0]
              simp only [pure_bind, hz0, f1, newRow, Sem.run_bind, run_newObj, Result.andThen_ok, Sem.run_pure]
              simp
            · rw [if_neg h0]
              have hz0 : (Array.range (len * ti.size)).map (fun i => x.cells[i % x.cells.size]!) = zeroCells x.cells len := by
                simp only [zeroCells, hxs]
              simp only [Sem.run_bind, x1, Result.andThen_ok, Sem.run_pure, hz0, f1, newRow, run_newObj]
              simp
  | _ => exact Snd.bad
end ops
end Go.Vm
