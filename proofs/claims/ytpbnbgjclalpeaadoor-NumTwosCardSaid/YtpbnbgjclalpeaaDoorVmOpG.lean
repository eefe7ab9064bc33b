/- VM: its operations are the model's, one by one (seventh part): conversions, operators. -/
import Derived.Test.YtpbnbgjclalpeaaDoorVmOpF
import Derived.Laws.BytesString
set_option linter.unusedVariables false
set_option linter.unusedSimpArgs false
namespace Go.Vm
open Go.RowKit
section ops
variable {env : Nat → Int} {n0 : Nat} {P : Program} {M : Mp} {h : Tr Ob} {w : World} {cx : Cx}

theorem VR.i' {k : IntKind} {e : IE} {n : Int} (h : e.den env = n) : VR env M (.i k e) (.int k n) := h ▸ VR.i k e
theorem VR.b' {e : BE} {b : Bool} (h : e.den env = b) : VR env M (.b e) (.bool b) := h ▸ VR.b e
theorem isS_ok (hT : TabOk P cx) {t : TypeId} (e : isS (cx.ty.get t) = true) : ∃ d, P.underlying t = some d := by
  cases ht : cx.ty.get t with
  | none => rw [ht] at e; cases e
  | some ti => exact let ⟨d, h1, _⟩ := (hT t ti ht).und; ⟨d, h1⟩

/-! ### conversions -/
theorem constBytes_ok : ∀ (cs : RL V) (r : RL Nat) (xs : List Value), constBytes cs = some r → VRs env M cs.toList xs → okBytes r ∧ xs = r.toList.map fun (n : Nat) => Value.int .u8 (n : Int)
  | [], r, xs, e, hx => by
    cases e
    cases hx
    exact ⟨(fun n hn => by cases hn), rfl⟩
  | (v, k) :: cs, r, xs, e, hx => by
    match v, e, hx with
    | .i .u8 (.c (.ofNat n)), e, hx =>
      simp only [constBytes] at e
      cases hb : Nat.ble n 255 with
      | false => rw [hb] at e; cases e
      | true =>
        rw [hb] at e
        have hb : n ≤ 255 := Nat.le_of_ble_eq_true hb
        cases hc : constBytes cs with
        | none => rw [hc] at e; cases e
        | some r' =>
          rw [hc] at e
          cases e
          rw [RL.toList_cons] at hx
          have h1 := hx.take k
          have h2 := hx.drop k
          rw [List.take_left' (by simp)] at h1
          rw [List.drop_left' (by simp)] at h2
          obtain ⟨i1, i2⟩ := constBytes_ok cs r' _ hc h2
          refine ⟨?_, ?_⟩
          · intro m hm
            rw [RL.toList_cons, List.mem_append] at hm
            rcases hm with hm | hm
            · rw [(List.mem_replicate.1 hm).2]; omega
            · exact i1 m hm
          · rw [RL.toList_cons, List.map_append, ← i2, List.map_replicate]
            have h3 : xs.take k = List.replicate k (Value.int .u8 (n : Int)) := by
              have hl := h1.length
              rw [List.length_replicate] at hl
              refine List.eq_replicate_iff.2 ⟨hl.symm, ?_⟩
              intro x hx'
              obtain ⟨j, hj⟩ := List.getElem?_of_mem hx'
              have hlt : j < k := by have := (List.getElem?_eq_some_iff.1 hj).1; omega
              obtain ⟨y, y1, y2⟩ := h1.get j (V.i .u8 (.c (.ofNat n))) (by rw [List.getElem?_replicate, if_pos hlt])
              rw [hj] at y1; cases y1
              cases y2; rfl
            rw [← h3, List.take_append_drop]
theorem push_list : ∀ (ns : List Int) (s : ByteArray), (ns.foldl (fun r n => r.push (UInt8.ofNat n.toNat)) s).data.toList = s.data.toList ++ ns.map fun n => UInt8.ofNat n.toNat
  | [], s => by simp
  | n :: ns, s => by
    rw [List.foldl_cons, push_list ns]
    simp [ByteArray.push]
theorem convert_snd (hT : TabOk P cx) (r : Rel env n0 M h w) {v : V} {x : Value} (hv : VR env M v x) (src dst : TypeId) :
    SndV env n0 P M h w (vconvert (tk cx dst) cx src v) (convert src dst x) := by
  have hk := tk_ok hT dst
  cases hkk : tk cx dst with
  | int k =>
    rw [hkk] at hk
    have hu : P.underlying dst = some (.int k) := hk
    show SndV env n0 P M h w (match isS (cx.ty.get src) with | true => convI v k | false => .bad 62) _
    cases hs : isS (cx.ty.get src) with
    | false => exact Snd.bad
    | true =>
      obtain ⟨d, hd⟩ := isS_ok hT hs
      cases hv with
      | i k2 e =>
        refine Snd.ret r (x := .int k (k.wrap (e.den env))) ?_ (VR.i' (mkWrap_den env e k))
        simp only [convert, Sem.run_bind, run_und hd, run_und hu, Result.andThen_ok]
        cases d <;> rfl
      | _ => exact Snd.bad
  | string =>
    rw [hkk] at hk
    have hu : P.underlying dst = some .string := hk
    show SndV env n0 P M h w (convS2 (tk cx src) cx v) _
    have hks := tk_ok hT src
    cases hsk : tk cx src with
    | string =>
      rw [hsk] at hks
      have hd : P.underlying src = some .string := hks
      cases hv with
      | s rr s h1 h2 =>
        refine Snd.ret r ?_ (VR.s rr s h1 h2)
        simp only [convert, Sem.run_bind, run_und hd, run_und hu, Result.andThen_ok]
        rfl
      | _ => exact Snd.bad
    | slice e =>
      rw [hsk] at hks
      have hd : P.underlying src = some (.slice e) := hks
      show SndV env n0 P M h w (convSl v (tk cx e)) _
      have hke := tk_ok hT e
      cases hek : tk cx e with
      | int k =>
        rw [hek] at hke
        have he : P.underlying e = some (.int k) := hke
        cases k with
        | u8 =>
          have go : ∀ x, (∃ b l c, x = Value.slice b l c) → (convert src dst x).run P w = (Conv.bytesToString x).run P w := by
            rintro x ⟨b, l, c, rfl⟩
            simp only [convert, Sem.run_bind, run_und hd, run_und hu, Result.andThen_ok, run_und he]
          cases hv with
          | sn l c =>
            refine Snd.ret r (x := .string .empty) ?_ (VR.s [] _ rfl (fun n hn => by cases hn))
            rw [go _ ⟨_, _, _, rfl⟩]; rfl
          | sl b o l c c' pl a hM h1 h2 h3 h4 =>
            intro nx lg a' h' nx' lg' hn er
            obtain ⟨el, es, ex, cs, g1, g2, g3⟩ := run_rows er
            cases hcb : constBytes ((cs.drop o).take l) with
            | none => rw [hcb] at g3; exact (run_bad g3).elim
            | some rr =>
              rw [hcb] at g3
              obtain ⟨e4, e5⟩ := run_ret g3
              cases e5; subst e4
              obtain ⟨pl', c2, el', fz, m1, m2, m3, m4, m5⟩ := r.live g1
              rw [hM] at m1; cases m1
              obtain ⟨xs, o1, o2, o3, o4⟩ := m3.loads (P := P) o l g2
              rw [← RL.toList_drop, ← RL.toList_take] at o2
              obtain ⟨k1, k2⟩ := constBytes_ok _ _ _ hcb o2
              have hld : (loadCells a l).run P w = .ok xs.toArray w := by
                rcases h3 with e0 | e0
                · rw [e0]; exact o3
                · have : l = 0 := by omega
                  subst this
                  rw [List.length_eq_zero_iff.1 o1]; rfl
              have hxs : xs = (rr.toList.map fun (n : Nat) => (n : Int)).map (Value.int .u8) := by rw [k2, List.map_map]; rfl
              rw [hxs] at hld
              have hrun := run_bytesToString w a l c' _ hld
              rw [← go _ ⟨_, _, _, rfl⟩] at hrun
              refine ⟨M, w, _, hrun, M.le_refl, r, VR.s rr _ ?_ k1, Below.refl _ _, hn⟩
              rw [push_list]
              simp [bytesOf, List.map_map]
          | _ => exact Snd.bad
        | _ => cases hv <;> exact Snd.bad
      | _ => cases hv <;> exact Snd.bad
    | _ => exact Snd.bad
  | slice e =>
    rw [hkk] at hk
    have hu : P.underlying dst = some (.slice e) := hk
    show SndV env n0 P M h w (match tk cx src with | .string => convB v e (tk cx e) | _ => .bad 62) _
    have hks := tk_ok hT src
    cases hsk : tk cx src with
    | string =>
      rw [hsk] at hks
      have hd : P.underlying src = some .string := hks
      cases hv with
      | s rr s h1 h2 =>
        show SndV env n0 P M h w (match tk cx e with | .int .u8 => vnew e 1 (u8s rr) false (sliceTo rr.len rr.len) | _ => .bad 62) _
        have hke := tk_ok hT e
        cases hek : tk cx e with
        | int k =>
          rw [hek] at hke
          have he : P.underlying e = some (.int k) := hke
          cases k with
          | u8 =>
            have hsz := str_size h1
            have hlen : rr.len = s.size := by rw [RL.len_eq, hsz]
            have hcap : s.size ≤ newCapOf w s.size 0 e := newCap_ge w s.size 0 e
            have hch : (choose (.appendCap s.size 0 e)).run P w = .ok (newCapOf w s.size 0 e) (drawn1 w) := by
              rw [run_choose]; rfl
            intro nx lg a h' nx' lg' hn hr
            obtain ⟨q1, q2⟩ := run_new hr
            obtain ⟨e4, e5⟩ := run_ret q2
            cases e5; subst e4
            have hM := r.dom nx q1
            have hxs := str_VRs (env := env) (M := M) h1 h2
            generalize hxd : (s.data.toList.map fun b => Value.int .u8 b.toNat) = xs at hxs
            have hxl : xs.length = s.size := by rw [← hxd, List.length_map, Array.length_toList]; rfl
            generalize hcc : xs.toArray ++ Array.replicate (newCapOf w s.size 0 e - s.size) (Value.int .u8 0) = cc
            have hccs : cc.size = newCapOf w s.size 0 e := by rw [← hcc]; simp [hxl]; omega
            have hfz : (World.freeze { drawn1 w with heap := w.heap.push (.cells cc e (0, 0)) } ⟨w.heap.size, cc.size, none⟩ 1) = { drawn1 w with heap := w.heap.push (.cells cc e (cc.size, cc.size + 1)) } := by
              unfold World.freeze
              rw [if_neg (by omega)]
              congr 1
              apply Array.ext_getElem?
              intro k
              rw [Array.getElem?_modify, push_get, push_get]
              by_cases hk2 : w.heap.size = k
              · subst hk2; simp
              · rw [if_neg hk2, if_neg (fun e => hk2 e.symm), if_neg (fun e => hk2 e.symm)]
            have hrun : (convert src dst (.string s)).run P w = .ok (.slice (some ⟨w.heap.size, 0, none⟩) s.size (newCapOf w s.size 0 e)) { drawn1 w with heap := w.heap.push (.cells cc e (cc.size, cc.size + 1)) } := by
              simp only [convert, Sem.run_bind, run_und hd, run_und hu, Result.andThen_ok, run_und he, Conv.stringToBytes, hch, newRow, run_newObj, Sem.run_pure, markStringish, run_shape]
              have hel : (s.data.map fun b => Value.int .u8 b.toNat) ++ Array.replicate (newCapOf w s.size 0 e - s.size) (Value.int .u8 0) = cc := by
                rw [← hcc, ← hxd]; congr 1; apply Array.toList_inj.1; simp
              rw [hel]
              have hsh : World.shape? { drawn1 w with heap := (drawn1 w).heap.push (.cells cc e (0, 0)) } (drawn1 w).heap.size = some (e, cc.size) := by
                simp [World.shape?]
              rw [hsh]
              simp only [run_freeze]
              rw [show (drawn1 w).heap = w.heap from rfl, hfz]
              rfl
            have hpush := (r.same (w' := drawn1 w) rfl).push q1 hn (ob := .cells e 1 false true (u8s rr)) (o := .cells cc e (cc.size, cc.size + 1)) (pl := ⟨w.heap.size, 0, cc.size, 1, false⟩) rfl rfl (fun w' hw' => by
              refine OR.live (pl := ⟨w.heap.size, 0, cc.size, 1, false⟩) e false (u8s rr) cc e _ hw' rfl ?_ ?_ ?_ (fun e => by cases e)
              · show 0 + _ ≤ cc.size
                rw [hxs.length, hxl, hccs]; omega
              · intro i v hv
                obtain ⟨x, x1, x2⟩ := hxs.get i v hv
                refine ⟨x, ?_, x2.mono (Mp.le_add hM)⟩
                show cc[0 + i]? = _
                have hlt := (List.getElem?_eq_some_iff.1 x1).1
                rw [← hcc, Nat.zero_add, Array.getElem?_append_left (by simpa using hlt)]
                simpa using x1
              · intro i hi; simp; omega)
            refine ⟨_, _, _, hrun, Mp.le_add hM, hpush, ?_, ?_, by omega⟩
            · rw [hlen]
              exact VR.sl nx 0 s.size s.size _ ⟨w.heap.size, 0, cc.size, 1, false⟩ _ (add_self _ _ _) hcap (by show 0 + 0 + _ * 1 ≤ cc.size; omega) (.inl rfl) (Nat.le_refl _)
            · exact (drawn1_below w n0).trans (push_below (w := drawn1 w) r.size _)
          | _ => exact Snd.bad
        | _ => exact Snd.bad
      | _ => exact Snd.bad
    | _ => exact Snd.bad
  | _ => exact Snd.bad
end ops
end Go.Vm
