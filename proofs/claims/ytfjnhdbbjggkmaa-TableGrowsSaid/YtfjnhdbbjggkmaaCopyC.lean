/- table.Copy: what stands in the other table is copied, all read first (an overlap too). -/
import Derived.Test.YtfjnhdbbjggkmaaPTableAllx1a
import Derived.Test.YtfjnhdbbjggkmaaMemBytesW
import Derived.Laws.CopyOwn
import Derived.Deep.RegionLaw
set_option linter.unusedVariables false
set_option linter.unusedSimpArgs false
namespace Go.Proofs.Ytfjnhdbbjggkmaa.Mem
open Go.RowKit Go.Proofs.YtfjnhdbbjggkmaaW.PrintWords Go.Proofs.YtfjnhdbbjggkmaaW.PrintLast Go.Proofs.YtfjnhdbbjggkmaaW.PrintMore Go.Proofs.Ytfjnhdbbjggkmaa.PTableAll
theorem info23 : (Try.prog.info? 23).map (fun i => (i.zero, i.size, i.bytes)) = some (some (.int .u64 0), 1, 8) := by kernel_rfl
theorem size23 : (Try.prog.info? 23).map (·.size) = some 1 := by kernel_rfl
theorem take_three {α : Type} (L Y : List α) (D n l : Nat) (hY : Y.length = n) (h1 : D + n ≤ l) (h2 : l ≤ L.length) : (L.take D ++ Y ++ L.drop (D + n)).take l = (L.take l).take D ++ (Y ++ (L.take l).drop (D + n)) := by
  have e1 : (L.take D).length = D := by rw [List.length_take]; omega
  rw [List.append_assoc, List.take_append, List.take_append, e1, hY, List.take_of_length_le (by omega), List.take_of_length_le (l := Y) (by omega), List.take_take, Nat.min_eq_left (by omega), List.drop_take, show l - D - n = l - (D + n) by omega]
theorem copy_run (g c0 D n cd cs : Nat) (l0 ys : List Int) (base : Nat) (ok : Nat → Prop) (w : World) (dp sp : Option Addr) (hR : Kd.R (Kd.int .u64) 23 w base ok (.slice (some ⟨g, 0, none⟩) l0.length c0) l0)
    (hdp : 0 < n → dp = some ⟨g, D, none⟩) (hC : Kd.C (Kd.int .u64) w sp n ys) (hD : D + n ≤ l0.length) :
    ∃ w1, (Builtin.copy_ #[42, 42] 3 #[.slice dp n cd, .slice sp n cs]).run Try.prog w = .ok (goInt (n : Int)) w1 ∧ Kd.R (Kd.int .u64) 23 w1 base ok (.slice (some ⟨g, 0, none⟩) l0.length c0) (l0.take D ++ (ys ++ l0.drop (D + n))) ∧ w.grownBy w1 (some g) := by
  have hr := Kd.reads_of_C (enc := Value.int .u64) (d := (0 : Int)) (h1 := fun _ => rfl) hC
  have hn : ys.length = n := hr.1
  have hown := Kd.own_of_R (enc := Value.int .u64) (h1 := fun _ => rfl) hR
  have hln : (l0.take D ++ (ys ++ l0.drop (D + n))).length = l0.length := by simp; omega
  rcases Nat.eq_zero_or_pos n with h0 | hp
  · subst h0
    obtain rfl : ys = [] := List.eq_nil_of_length_eq_zero hn
    refine ⟨w, run_copy_none w 42 42 3 23 dp sp 0 cd 0 cs Try.underlying42 size23 rfl, ?_, World.grownBy.refl w _⟩
    simpa using hR
  · obtain ⟨ad, rfl, hc⟩ := hr.2.2 hp
    obtain rfl := hdp hp
    rcases hown.2 with ⟨hv, _⟩ | ⟨g', cap, cur, hv, hb, hh, hnc, hcm, hcs, htake⟩
    · cases hv
    injection hv with hv hv2 hv3
    injection hv with hv
    injection hv with hv
    subst hv hv3
    have hcs1 : cur.size = c0 := by omega
    have hkl : (encs (Value.int .u64) ys).length = n := by rw [encs_length]; exact hn
    have hsrc : ∀ j u, (encs (Value.int .u64) ys)[j]? = some u → w.cell? (ad.add j) = some u := by
      intro j u hu
      have hj : j < ys.length := by
        rcases Nat.lt_or_ge j ys.length with h | h
        · exact h
        · rw [List.getElem?_eq_none (by rw [encs_length]; exact h)] at hu
          cases hu
      rw [encs_get (d := (0 : Int)) _ j hj] at hu
      rw [hc j (by omega), ← hu]
    have hrun := run_copy_cells (P := Try.prog) w 42 42 3 23 g D n cd ad n cs (encs (Value.int .u64) ys) Try.underlying42 size23 (by rw [hkl]; exact (Nat.min_self n).symm) hsrc
      (fun j hj => by rw [hkl] at hj; rw [cell_of_row w g _ cur 23 (0, 0) hh]; simp; omega) (fun j _ => blk_frozen hh _) (by intro u hu; simp only [encs, List.mem_map] at hu; obtain ⟨q, _, rfl⟩ := hu; rfl)
    obtain ⟨cur', h3, h4, h5⟩ := setCells_row (encs (Value.int .u64) ys) D w cur hh (by rw [hkl]; omega)
    obtain ⟨s1, s2, s3, s4⟩ := setCells_same g (encs (Value.int .u64) ys) D w
    refine ⟨_, by rw [hrun, hkl], Kd.R_of_own (enc := Value.int .u64) (h1 := fun _ => rfl) ?_ hR.1, ⟨s1, s2, s3, by rw [s4]; exact Nat.le_refl _, fun k _ hk => setCells_far _ _ k (fun he => hk (by rw [he]))⟩⟩
    rw [hln]
    refine ⟨by rw [encs_length, hln, Nat.mul_one], .inr ⟨g, c0, cur', rfl, hb, h3, hnc, hcm, by rw [h4, hcs], ?_⟩⟩
    have htk : cur.toList.take l0.length = encs (Value.int .u64) l0 := by rw [← htake, Nat.mul_one]
    rw [h5, hkl, Nat.mul_one, take_three _ _ D n l0.length hkl hD (by have := Array.length_toList (xs := cur); omega), htk]
    simp [encs, List.map_take, List.map_drop]
theorem step_copy_R {ops : Array Oper} {o : Oper} {a : Act} {w : World} {K : Act → World → Prop} {Q : Exit → Act → World → Prop} {E : Prop} (hgd : o.guard = none) (d s : Operand) (hty : o.type = 3)
    (ho : o.op = .call { callee := .builtin .copy, args := #[d, s], argTypes := #[42, 42] }) (dp sp : Option Addr) (n cd cs : Nat) (hd : a.eval d = .slice dp n cd) (hs : a.eval s = .slice sp n cs)
    (g c0 D : Nat) (l0 ys : List Int) (base : Nat) (ok : Nat → Prop) (hR : Kd.R (Kd.int .u64) 23 w base ok (.slice (some ⟨g, 0, none⟩) l0.length c0) l0) (hdp : 0 < n → dp = some ⟨g, D, none⟩) (hC : Kd.C (Kd.int .u64) w sp n ys) (hD : D + n ≤ l0.length)
    (h : ∀ w', Hid (Kd.R (Kd.int .u64) 23 w' base ok (.slice (some ⟨g, 0, none⟩) l0.length c0) (l0.take D ++ (ys ++ l0.drop (D + n)))) → Hid (w.grownBy w' (some g)) → K (a.put o.dst (goInt (n : Int))) w') :
    if Region.wanted o (yielded ops a.tmps) = true then Oper.wp Try.prog o a w K Q else E := by
  have hw : Region.wanted o (yielded ops a.tmps) = true := by simp [Region.wanted, hgd]
  rw [if_pos hw]
  obtain ⟨w1, hrun, h1, h2⟩ := copy_run g c0 D n cd cs l0 ys base ok w dp sp hR hdp hC hD
  unfold Oper.wp
  simp [execOp, ho, hty, resolve, invoke, builtin, hd, hs, hrun, Result.andThen]
  exact h w1 (Lib.hid h1) (Lib.hid h2)
end Go.Proofs.Ytfjnhdbbjggkmaa.Mem
