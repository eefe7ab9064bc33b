/- slices.Repeat, Grow, Concat for tables: begun. -/
import Derived.Test.YtfjnhdbbjggkmaaAll0
set_option linter.unusedVariables false
set_option linter.unusedSimpArgs false
namespace Go.Proofs.Ytfjnhdbbjggkmaa.Mem
open Go.RowKit Go.Proofs.YtfjnhdbbjggkmaaW.PrintWords Go.Proofs.YtfjnhdbbjggkmaaW.PrintLast Go.Proofs.YtfjnhdbbjggkmaaW.PrintMore Go.Proofs.Ytfjnhdbbjggkmaa.PTableAll
theorem low_k (k : Nat) (hk : k ≤ 64) : Go.bits .and .u64 (k : Int) 4294967295 = k := and_low32 _ (by omega) (by omega)
theorem shr_k (k : Nat) (hk : k ≤ 64) : (k : Int) / 4294967296 = 0 := by omega
set_option maxHeartbeats 2000000 in
theorem mul64_c (k : Nat) (hk : k ≤ 64) (w : World) :
    Calls Try.prog 36 #[.int .u64 1, .int .u64 k] w fun e w' => e = .returned (.tuple #[.int .u64 0, .int .u64 k]) ∧ Drawn0 w w' := by
  have b1 := low_k k hk
  have b2 := shr_k k hk
  have b3 : Go.bits .and .u64 1 4294967295 = 1 := by decide
  have b4 : IntKind.u64.wrap (k : Int) = k := by rw [wrap_u64k]; omega
  have b5 : Go.bits .and .u64 0 4294967295 = 0 := by decide
  go_enter Try.func36, Try.ntmps36
  go_wp2
  go_ret2
  exact ⟨by simp, Drawn0.refl _⟩
set_option maxHeartbeats 2000000 in
theorem mul_c (k : Nat) (hk : k ≤ 64) (w : World) :
    Calls Try.prog 34 #[.int .u64 1, .int .u64 k] w fun e w' => e = .returned (.tuple #[.int .u64 0, .int .u64 k]) ∧ Drawn0 w w' := by
  go_enter Try.func34, Try.ntmps34
  go_wp2_with fail
  refine (mul64_c k hk _).mono ?_
  rintro e w' ⟨rfl, ⟨n1, rfl⟩⟩
  go_wp2
  go_ret2
  exact ⟨rfl, ⟨⟨n1, rfl⟩⟩⟩
theorem copy_run2 (g c0 D n nd ns cd cs : Nat) (hmin : Nat.min ns nd = n) (l0 ys : List Int) (base : Nat) (ok : Nat → Prop) (w : World) (dp sp : Option Addr) (hR : Kd.R (Kd.int .u64) 23 w base ok (.slice (some ⟨g, 0, none⟩) l0.length c0) l0)
    (hdp : 0 < n → dp = some ⟨g, D, none⟩) (hn : ys.length = n) (hcl : 0 < n → ∃ ad, sp = some ad ∧ ∀ j, j < n → w.cell? (ad.add j) = some (.int .u64 (ys.getD j 0))) (hD : D + n ≤ l0.length) :
    ∃ w1, (Builtin.copy_ #[42, 42] 3 #[.slice dp nd cd, .slice sp ns cs]).run Try.prog w = .ok (goInt (n : Int)) w1 ∧ Kd.R (Kd.int .u64) 23 w1 base ok (.slice (some ⟨g, 0, none⟩) l0.length c0) (l0.take D ++ (ys ++ l0.drop (D + n))) ∧ w.grownBy w1 (some g) := by
  have hown := Kd.own_of_R (enc := Value.int .u64) (h1 := fun _ => rfl) hR
  have hln : (l0.take D ++ (ys ++ l0.drop (D + n))).length = l0.length := by simp; omega
  rcases Nat.eq_zero_or_pos n with h0 | hp
  · subst h0
    obtain rfl : ys = [] := List.eq_nil_of_length_eq_zero hn
    refine ⟨w, run_copy_none w 42 42 3 23 dp sp nd cd ns cs Try.underlying42 size23 hmin, ?_, World.grownBy.refl w _⟩
    simpa using hR
  · obtain ⟨ad, rfl, hc⟩ := hcl hp
    obtain rfl := hdp hp
    rcases hown.2 with ⟨hv, _⟩ | ⟨g', cap, cur, hv, hb, hh, hnc, hcm, hcs, htake⟩
    · cases hv
    injection hv with hv hv2 hv3
    injection hv with hv
    injection hv with hv
    subst hv hv3
    have hcs1 : cur.size = c0 := by omega
    have hkl : (encs (Value.int .u64) ys).length = n := by rw [encs_length]; exact hn
    have hsrc : ∀ j u, (encs (Value.int .u64) ys)[j]? = some u → w.cell? (ad.add j) = some u := by
      intro j u hu
      have hj : j < ys.length := by
        rcases Nat.lt_or_ge j ys.length with h | h
        · exact h
        · rw [List.getElem?_eq_none (by rw [encs_length]; exact h)] at hu
          cases hu
      rw [encs_get (d := (0 : Int)) _ j hj] at hu
      rw [hc j (by omega), ← hu]
    have hrun := run_copy_cells (P := Try.prog) w 42 42 3 23 g D nd cd ad ns cs (encs (Value.int .u64) ys) Try.underlying42 size23 (by rw [hkl]; exact hmin.symm) hsrc
      (fun j hj => by rw [hkl] at hj; rw [cell_of_row w g _ cur 23 (0, 0) hh]; simp; omega) (fun j _ => blk_frozen hh _) (by intro u hu; simp only [encs, List.mem_map] at hu; obtain ⟨q, _, rfl⟩ := hu; rfl)
    obtain ⟨cur', h3, h4, h5⟩ := setCells_row (encs (Value.int .u64) ys) D w cur hh (by rw [hkl]; omega)
    obtain ⟨s1, s2, s3, s4⟩ := setCells_same g (encs (Value.int .u64) ys) D w
    refine ⟨_, by rw [hrun, hkl], Kd.R_of_own (enc := Value.int .u64) (h1 := fun _ => rfl) ?_ hR.1, ⟨s1, s2, s3, by rw [s4]; exact Nat.le_refl _, fun k _ hk => setCells_far _ _ k (fun he => hk (by rw [he]))⟩⟩
    rw [hln]
    refine ⟨by rw [encs_length, hln, Nat.mul_one], .inr ⟨g, c0, cur', rfl, hb, h3, hnc, hcm, by rw [h4, hcs], ?_⟩⟩
    have htk : cur.toList.take l0.length = encs (Value.int .u64) l0 := by rw [← htake, Nat.mul_one]
    rw [h5, hkl, Nat.mul_one, take_three _ _ D n l0.length hkl hD (by have := Array.length_toList (xs := cur); omega), htk]
    simp [encs, List.map_take, List.map_drop]
theorem step_copy_R2 {ops : Array Oper} {o : Oper} {a : Act} {w : World} {K : Act → World → Prop} {Q : Exit → Act → World → Prop} {E : Prop} (hgd : o.guard = none) (d s : Operand) (hty : o.type = 3)
    (ho : o.op = .call { callee := .builtin .copy, args := #[d, s], argTypes := #[42, 42] }) (dp sp : Option Addr) (n nd ns cd cs : Nat) (hmin : Nat.min ns nd = n) (hd : a.eval d = .slice dp nd cd) (hs : a.eval s = .slice sp ns cs)
    (g c0 D : Nat) (l0 ys : List Int) (base : Nat) (ok : Nat → Prop) (hR : Kd.R (Kd.int .u64) 23 w base ok (.slice (some ⟨g, 0, none⟩) l0.length c0) l0) (hdp : 0 < n → dp = some ⟨g, D, none⟩) (hn : ys.length = n) (hcl : 0 < n → ∃ ad, sp = some ad ∧ ∀ j, j < n → w.cell? (ad.add j) = some (.int .u64 (ys.getD j 0))) (hD : D + n ≤ l0.length)
    (h : ∀ w', Hid (Kd.R (Kd.int .u64) 23 w' base ok (.slice (some ⟨g, 0, none⟩) l0.length c0) (l0.take D ++ (ys ++ l0.drop (D + n)))) → Hid (w.grownBy w' (some g)) → K (a.put o.dst (goInt (n : Int))) w') :
    if Region.wanted o (yielded ops a.tmps) = true then Oper.wp Try.prog o a w K Q else E := by
  have hw : Region.wanted o (yielded ops a.tmps) = true := by simp [Region.wanted, hgd]
  rw [if_pos hw]
  obtain ⟨w1, hrun, h1, h2⟩ := copy_run2 g c0 D n nd ns cd cs hmin l0 ys base ok w dp sp hR hdp hn hcl hD
  unfold Oper.wp
  simp [execOp, ho, hty, resolve, invoke, builtin, hd, hs, hrun, Result.andThen]
  exact h w1 (Lib.hid h1) (Lib.hid h2)
end Go.Proofs.Ytfjnhdbbjggkmaa.Mem
