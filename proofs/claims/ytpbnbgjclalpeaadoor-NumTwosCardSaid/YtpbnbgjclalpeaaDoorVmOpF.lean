/- VM: its operations are the model's, one by one (sixth part): append, copy, conversions. -/
import Derived.Test.YtpbnbgjclalpeaaDoorVmOpE
set_option linter.unusedVariables false
set_option linter.unusedSimpArgs false
namespace Go.Vm
open Go.RowKit
open Go.Builtin (zeroCells nextslicecap growBy lenOf firstCells)
section ops
variable {env : Nat → Int} {n0 : Nat} {P : Program} {M : Mp} {h : Tr Ob} {w : World} {cx : Cx}

theorem u8s_toList (r : RL Nat) : (u8s r).toList = r.toList.map fun n => V.i .u8 (.c (.ofNat n)) := by
  induction r with
  | nil => rfl
  | cons x r ih => show RL.toList ((V.i .u8 (.c (.ofNat x.1)), x.2) :: u8s r) = _; rw [RL.toList_cons, RL.toList_cons, ih, List.map_append, List.map_replicate]
theorem bytes_VRs : ∀ (l : List Nat) (bs : List UInt8), bs = l.map UInt8.ofNat → (∀ n ∈ l, n < 256) →
    VRs env M (l.map fun n => V.i .u8 (.c (.ofNat n))) (bs.map fun b => Value.int .u8 b.toNat)
  | [], _, e, _ => by subst e; exact .nil
  | n :: l, _, e, hn => by
    subst e
    refine .cons _ _ _ _ ?_ (bytes_VRs l _ rfl fun k hk => hn k (List.mem_cons_of_mem _ hk))
    have h1 : n < 256 := hn n List.mem_cons_self
    have : (UInt8.ofNat n).toNat = n := by simp; omega
    show VR env M (V.i .u8 (.c (.ofNat n))) (Value.int .u8 ((UInt8.ofNat n).toNat : Nat))
    rw [this]
    exact VR.i .u8 (.c (.ofNat n))
theorem str_VRs {r : RL Nat} {s : ByteArray} (h1 : s.data.toList = bytesOf r) (h2 : okBytes r) : VRs env M (u8s r).toList (s.data.toList.map fun b => Value.int .u8 b.toNat) := by
  rw [u8s_toList]
  exact bytes_VRs _ _ h1 h2
theorem str_size {r : RL Nat} {s : ByteArray} (h1 : s.data.toList = bytesOf r) : s.size = r.toList.length := by
  have : s.data.toList.length = (bytesOf r).length := by rw [h1]
  simp only [bytesOf, List.length_map, Array.length_toList] at this
  exact this
theorem cut_list (s : ByteArray) (n : Nat) : (s.extract 0 n).data.toList = s.data.toList.take n := by
  rw [ByteArray.data_extract]
  simp [List.extract_eq_take_drop]
theorem append_snd (hT : TabOk P cx) (r : Rel env n0 M h w) {sv xv : V} {s' x' : Value} (hs : VR env M sv s') (hx : VR env M xv x') {tys : Array TypeId} {st xt : TypeId} {rest : List TypeId} (hty : tys.toList = st :: xt :: rest) (ty : TypeId) :
    SndV env n0 P M h w (vappend (tk cx st) (tk cx xt) cx sv xv) (Builtin.append_ tys ty #[s', x']) := by
  have h0 : tys[0]? = some st := by rw [← Array.getElem?_toList, hty]; rfl
  have h1 : tys[1]? = some xt := by rw [← Array.getElem?_toList, hty]; rfl
  have hk := tk_ok hT st
  have hkx := tk_ok hT xt
  cases hkk : tk cx st with
  | slice e =>
    rw [hkk] at hk
    have hu : P.underlying st = some (.slice e) := hk
    show SndV env n0 P M h w (appS sv cx (tk cx xt) e xv) _
    cases sv with
    | sl base len cap =>
      show SndV env n0 P M h w (appTI (cx.ty.get e) (tk cx xt) e xv base len cap) _
      cases ht : cx.ty.get e with
      | none => exact Snd.bad
      | some ti =>
        have ok := hT e ti ht
        show SndV env n0 P M h w (match ti.zero with | some z => (match Nat.ble ti.bytes 4096 && Nat.beq (cellsV z).length ti.size with | true => appX xv (tk cx xt) e base len cap ti.size (cellsV z) | false => .bad 40) | none => .bad 40) _
        cases hz : ti.zero with
        | none => exact Snd.bad
        | some z =>
          show SndV env n0 P M h w (match Nat.ble ti.bytes 4096 && Nat.beq (cellsV z).length ti.size with | true => appX xv (tk cx xt) e base len cap ti.size (cellsV z) | false => .bad 40) _
          cases hb : (Nat.ble ti.bytes 4096 && Nat.beq (cellsV z).length ti.size) with
          | false => exact Snd.bad
          | true =>
            obtain ⟨hb1, hb2⟩ := and_true hb
            have q1 : ti.bytes ≤ 4096 := Nat.le_of_ble_eq_true hb1
            have q2 : (cellsV z).length = ti.size := Nat.eq_of_beq_eq_true hb2
            obtain ⟨i, hi, isz, iby, hiz⟩ := ok.info
            obtain ⟨zx, zx1, zx2⟩ := hiz z hz
            have hzs : zx.cells.size = i.size := by have := (zx2 env M).cells.length; rw [isz, ← q2, this]; simp
            have hby : i.bytes ≤ 4096 := by rw [iby]; exact q1
            have core : ∀ (m : Nat) (new : RL V) (xs : List Value) (d : TypeDesc), P.underlying xt = some d → (∀ k, d ≠ .int k) → lenOf x' = pure m →
                (∀ w1 : World, w1.heap = w.heap → (firstCells i.size m x').run P w1 = .ok xs.toArray w1) → VRs env M new.toList xs → xs.length = m * ti.size →
                SndV env n0 P M h w (appGo e base len cap ti.size m new) (Builtin.append_ tys ty #[s', x']) := by
              intro m new xs d hd hnd hl hf hv hxl
              refine appGo_snd r hs hv hxl (e' := e) ?_ ?_
              · intro b' c' hs' hroom
                subst hs'
                rw [append_room hu hi h0 h1 hd hnd hl (hf w rfl) hroom, isz]
              · intro b' c' olds hs' hlt hsm hold
                subst hs'
                refine ⟨newCapOf w (len + m) c' e, zeroCells zx.cells (newCapOf w (len + m) c' e - (len + m)), newCap_ge _ _ _ _, by simp [zeroCells, hzs, isz], ?_⟩
                rw [← isz] at hold
                exact append_grow hu hi zx1 h0 h1 hd hnd hl (hf _ rfl) hold hlt hsm hby
            show SndV env n0 P M h w (appX xv (tk cx xt) e base len cap ti.size (cellsV z)) _
            cases hx with
            | sn m c =>
              show SndV env n0 P M h w (match isSl (tk cx xt) && Nat.beq m 0 with | true => appGo e base len cap ti.size m [] | false => .bad 39) _
              cases hc : (isSl (tk cx xt) && Nat.beq m 0) with
              | false => exact Snd.bad
              | true =>
                obtain ⟨c1, c2⟩ := and_true hc
                have m0 : m = 0 := Nat.eq_of_beq_eq_true c2
                subst m0
                cases hxk : tk cx xt with
                | slice e2 =>
                  rw [hxk] at hkx
                  exact core 0 [] [] _ hkx (by intro k e; cases e) rfl (fun w1 _ => rfl) .nil (by simp)
                | _ => rw [hxk] at c1; cases c1
            | sl b o m c c' pl a' hM g1 g2 g3 g4 =>
              show SndV env n0 P M h w (match isSl (tk cx xt) with | true => .rows b o (Nat.mul m ti.size) fun new => appGo e base len cap ti.size m new | false => .bad 39) _
              cases hc : isSl (tk cx xt) with
              | false => exact Snd.bad
              | true =>
                cases hxk : tk cx xt with
                | slice e2 =>
                  rw [hxk] at hkx
                  intro nx lg a h' nx' lg' hn er
                  obtain ⟨el, es, ex, cs, k1, k2, k3⟩ := run_rows er
                  obtain ⟨pl', c2, el', fz, m1, m2, m3, m4, m5⟩ := r.live k1
                  rw [hM] at m1; cases m1
                  obtain ⟨xs, o1, o2, o3, o4⟩ := m3.loads (P := P) o (m * ti.size) k2
                  refine core m _ xs _ hkx (by intro k e; cases e) rfl ?_ (by rw [RL.toList_take, RL.toList_drop]; exact o2) o1 nx _ a h' nx' lg' hn k3
                  intro w1 hw1
                  show (loadCells a' (m * i.size)).run P w1 = _
                  rw [isz]
                  rcases g3 with e0 | e0
                  · rw [e0, ← o1]
                    refine loadCells_run _ xs ?_
                    intro j x e
                    rw [add_eq, cell_of pl _ (c := c2) (el := el') (fz := fz) (by rw [hw1]; exact m3.heap)]
                    exact o4 j x e
                  · have m0 : m = 0 := by omega
                    subst m0
                    rw [Nat.zero_mul] at o1 ⊢
                    rw [List.length_eq_zero_iff.1 o1]; rfl
                | _ => rw [hxk] at hc; cases hc
            | s rr s h1' h2' =>
              show SndV env n0 P M h w (match isSt (tk cx xt) && Nat.beq ti.size 1 with | true => appGo e base len cap ti.size rr.len (u8s rr) | false => .bad 39) _
              cases hc : (isSt (tk cx xt) && Nat.beq ti.size 1) with
              | false => exact Snd.bad
              | true =>
                obtain ⟨c1, c2⟩ := and_true hc
                have s1 : ti.size = 1 := Nat.eq_of_beq_eq_true c2
                cases hxk : tk cx xt with
                | string =>
                  rw [hxk] at hkx
                  have hsz := str_size h1'
                  refine core rr.len (u8s rr) (s.data.toList.map fun b => Value.int .u8 b.toNat) _ hkx (by intro k e; cases e) ?_ ?_ (str_VRs h1' h2') ?_
                  · rw [RL.len_eq, ← hsz]; rfl
                  · intro w1 _
                    show (pure ((s.extract 0 rr.len).data.map fun b => Value.int .u8 b.toNat) : Sem (Array Value)).run P w1 = _
                    rw [Sem.run_pure]
                    congr 1
                    apply Array.toList_inj.1
                    rw [Array.toList_map, cut_list, RL.len_eq, ← hsz, List.take_of_length_le (by show s.data.toList.length ≤ s.data.size; simp)]
                  · simp only [List.length_map, Array.length_toList]; rw [s1, RL.len_eq, ← hsz, Nat.mul_one]; rfl
                | _ => rw [hxk] at c1; cases c1
            | i kk ie =>
              show SndV env n0 P M h w (match isIn (tk cx xt) with | true => appInt ie e base len cap ti.size (cellsV z) | false => .bad 39) _
              cases hc : isIn (tk cx xt) with
              | false => exact Snd.bad
              | true =>
                cases hxk : tk cx xt with
                | int k2 =>
                  rw [hxk] at hkx
                  have hd : P.underlying xt = some (.int k2) := hkx
                  match ie with
                  | .c (.ofNat m) =>
                    show SndV env n0 P M h w (match Nat.ble m 1048576 with | true => appGo e base len cap ti.size m (RL.rep m (cellsV z)) | false => .bad 38) _
                    cases hm : Nat.ble m 1048576 with
                    | false => exact Snd.bad
                    | true =>
                      have hm : m ≤ 1048576 := Nat.le_of_ble_eq_true hm
                      refine appGo_snd r hs (rep_zeros (zx2 env M) m) (by simp [zeroCells, hzs, isz]) (e' := e) ?_ ?_
                      · intro b' c' hs' hroom
                        subst hs'
                        have := appendz_room (ty := ty) (w := w) (base := b') hu hi zx1 h0 h1 hd (j := kk) hm hby hzs hroom
                        rw [isz] at this
                        exact this
                      · intro b' c' olds hs' hlt hsm hold
                        subst hs'
                        rw [← isz] at hold
                        refine ⟨newCapOf w (len + m) c' e, zeroCells zx.cells (newCapOf w (len + m) c' e - (len + m)), newCap_ge _ _ _ _, by simp [zeroCells, hzs, isz], ?_⟩
                        have := appendz_grow (ty := ty) (w := w) (base := b') hu hi zx1 h0 h1 hd (j := kk) hm hby hzs hold hlt hsm
                        simp only [Array.toArray_toList]
                        exact this
                  | .c (.negSucc m) => exact Snd.bad
                  | .v _ => exact Snd.bad
                  | .wrap _ _ => exact Snd.bad
                  | .bin .. => exact Snd.bad
                | _ => rw [hxk] at hc; cases hc
            | _ => exact Snd.bad
    | _ => exact Snd.bad
  | _ => exact Snd.bad

theorem copy_snd (hT : TabOk P cx) (r : Rel env n0 M h w) {dv sv : V} {d' s' : Value} (hd : VR env M dv d') (hs : VR env M sv s') {tys : Array TypeId} {dt : TypeId} {rest : List TypeId} (hty : tys.toList = dt :: rest) (ty : TypeId) :
    SndV env n0 P M h w (vcopy (tk cx dt) cx dv sv) (Builtin.copy_ tys ty #[d', s']) := by
  have h0 : tys[0]? = some dt := by rw [← Array.getElem?_toList, hty]; rfl
  have hk := tk_ok hT dt
  cases hkk : tk cx dt with
  | slice e =>
    rw [hkk] at hk
    have hu : P.underlying dt = some (.slice e) := hk
    show SndV env n0 P M h w (cpS dv cx e sv) _
    cases dv with
    | sl base dl dc =>
      show SndV env n0 P M h w (match tsize cx e with | some n => cpFrom sv base dl n | none => .bad 45) _
      cases hts : tsize cx e with
      | none => exact Snd.bad
      | some n =>
        show SndV env n0 P M h w (cpFrom sv base dl n) _
        obtain ⟨b', c', rfl, hc1, hc2⟩ := hd.sl_inv
        have core : ∀ (k : Nat) (new : RL V) (xs : List Value), lenOf s' = pure k → (firstCells n (Nat.min k dl) s').run P w = .ok xs.toArray w → VRs env M new.toList xs →
            (dl = 0 → xs = []) → SndV env n0 P M h w (cpPut base (Nat.min k dl) new) (Builtin.copy_ tys ty #[.slice b' dl c', s']) := by
          intro k new xs hl hf hv hx0
          have hrun : (Builtin.copy_ tys ty #[.slice b' dl c', s']).run P w =
              ((match b' with | some a => storeCells a xs | none => pure () : Sem Unit).run P w).andThen fun _ w' => .ok (goInt (Nat.min k dl)) w' := by
            simp only [Builtin.copy_, h0, List.getElem?_toArray, List.getElem?_cons_zero, List.getElem?_cons_succ, Sem.run_bind, run_und hu, Result.andThen_ok, hl, pure_bind, tsize_ok hT hts w, hf]
            cases b' <;> simp
          cases hd with
          | sn _ _ =>
            refine Snd.ret r ?_ (VR.i .i64 (.c (.ofNat (Nat.min k dl))))
            rw [hrun]; rfl
          | sl b o _ _ _ pl a' hM h1 h2 h3 h4 =>
            intro nx lg a h' nx' lg' hn er
            obtain ⟨el, es, ex, cs, g1, g2, g3, g4, g5⟩ := run_sets er
            obtain ⟨e4, e5⟩ := run_ret g5
            cases e5; subst e4
            obtain ⟨w', s1, s2, s3⟩ := sets_write (P := P) r g1 hM g2 g3 g4 hv
            refine ⟨M, w', _, ?_, M.le_refl, s2, VR.i .i64 (.c (.ofNat (Nat.min k dl))), s3, hn⟩
            rw [hrun]
            have : (storeCells a' xs).run P w = .ok () w' := by
              rcases h3 with e0 | e0
              · rw [e0]; exact s1
              · have hd0 : dl = 0 := by omega
                have := hx0 hd0
                subst this
                have e6 : w' = w := by
                  have := s1
                  simp only [storeCells] at this
                  cases this; rfl
                rw [e6]; rfl
            simp only [this, Result.andThen_ok]; rfl
        cases hs with
        | sn m c => exact core m [] [] rfl rfl .nil (fun _ => rfl)
        | sl b o m c c2 pl a' hM g1 g2 g3 g4 =>
          intro nx lg a h' nx' lg' hn er
          obtain ⟨el, es, ex, cs, k1, k2, k3⟩ := run_rows er
          obtain ⟨pl', cc, el', fz, m1, m2, m3, m4, m5⟩ := r.live k1
          rw [hM] at m1; cases m1
          obtain ⟨xs, o1, o2, o3, o4⟩ := m3.loads (P := P) o (Nat.min m dl * n) k2
          refine core m _ xs rfl ?_ (by rw [RL.toList_take, RL.toList_drop]; exact o2) ?_ nx _ a h' nx' lg' hn k3
          · show (loadCells a' (Nat.min m dl * n)).run P w = _
            rcases g3 with e0 | e0
            · rw [e0]; exact o3
            · have m0 : m = 0 := by omega
              subst m0
              have z0 : Nat.min 0 dl * n = 0 := by rw [show Nat.min 0 dl = 0 from Nat.zero_min dl, Nat.zero_mul]
              rw [z0] at o1 ⊢
              rw [List.length_eq_zero_iff.1 o1]; rfl
          · intro d0
            subst d0
            rw [show Nat.min m 0 = 0 from Nat.min_zero m, Nat.zero_mul] at o1
            exact List.length_eq_zero_iff.1 o1
        | s rr s h1' h2' =>
          have hsz := str_size h1'
          refine core rr.len (u8s (rr.take (Nat.min rr.len dl))) ((s.data.toList.take (Nat.min rr.len dl)).map fun b => Value.int .u8 b.toNat) ?_ ?_ ?_ ?_
          · rw [RL.len_eq, ← hsz]; rfl
          · show (pure ((s.extract 0 (Nat.min rr.len dl)).data.map fun b => Value.int .u8 b.toNat) : Sem (Array Value)).run P w = _
            rw [Sem.run_pure]
            congr 1
            apply Array.toList_inj.1
            rw [Array.toList_map, cut_list]
          · have := (str_VRs (env := env) (M := M) h1' h2').take (Nat.min rr.len dl)
            rw [u8s_toList] at this ⊢
            rw [RL.toList_take]
            rwa [← List.map_take, ← List.map_take] at this
          · intro d0; subst d0; rw [show Nat.min rr.len 0 = 0 from Nat.min_zero _]; rfl
        | _ => exact Snd.bad
    | _ => exact Snd.bad
  | _ => exact Snd.bad
end ops
end Go.Vm
