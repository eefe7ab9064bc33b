/- VM: what it answers, the model answers. -/
import Derived.Test.YtpbnbgjclalpeaaDoorVmDrawH
set_option linter.unusedVariables false
set_option linter.unusedSimpArgs false
namespace Go.Vm
open Go.RowKit
section
variable {env : Nat → Int} {n0 : Nat} {P : Program} {cx : Cx} {call : CallT}
theorem draw_snd (hT : TabOk P cx) (hp : PcOk env cx.pc) (hm : P.follows .mixedOrders = true) (hc : CallOk env n0 P call) (hl : LocC call) : DrawOk env n0 P chkDraw cx call := by
  intro id ops M h nx lg t w a res Q hok hchk s hres hpost
  have hres : evDr call cx ops.toList lg ops.toList [] t h nx = res := hres
  have hdf := evDr_eq hl cx ops.toList lg ops.toList [] t h nx
  rw [hres] at hdf
  have main : ∀ (oc : Oc) (h' : Tr Ob) (nx' : Nat) (lg' : Lg), res.rs = .ok oc (.mk h' nx' lg') → (Code.region id ops true).wp P Q a w := by
    intro oc h' nx' lg' e
    obtain ⟨T, H, N, W, RD, WR, F, q, q1, q2, q3, q4, q5, q6, q7, q8⟩ := trace_of ops.toList 0 [] t h nx _ oc h' nx' lg' rfl (hdf.symm.trans e)
    have hlen : 0 + ops.toList.length = ops.size := by simp
    rw [hlen] at q q5 q6 q7 q8
    have hF : ∀ j, j < ops.size → F (j + 1) = .mk (RD j) (WR j) (N j) (N (j + 1)) :: F j := fun j hj => by
      obtain ⟨o, ho⟩ := oper_at ops hj
      exact (q.step j o (by omega) hj ho).2.1
    have hFl : ∀ j, j ≤ ops.size → (F j).length = j := by
      intro j
      induction j with
      | zero => intro _; rw [q4]; rfl
      | succ j ih => intro hj; rw [hF j (by omega), List.length_cons, ih (by omega)]
    rw [hFl _ (Nat.le_refl _)] at q8
    have hb := befs_eq ops ops.toList 0 rfl
    rw [hlen] at hb
    have hb : befs ops.toList [] 0 = bitsAt ops ops.size := hb
    rw [hb] at q8
    have z : Trc call cx ops T H N W RD WR F := ⟨q, okDr_ok ops F (fun k => .mk (RD k) (WR k) (N k) (N (k + 1))) ops.size hF q4 q8, hchk⟩
    have hro : RO ≤ N 0 := by rw [q3]; exact s.ro
    have hS : ∀ j, (Array.replicate ops.size false).getD j false = false := by
      intro j
      rw [Array.getD_eq_getD_getElem?, Array.getElem?_replicate]
      split <;> rfl
    subst q5 q6 q7
    have hr : res = .nm (T ops.size) (.mk (H ops.size) (N ops.size) lg') := by
      cases res with
      | bad => exact hpost.elim
      | nm t' σ => cases e; rfl
      | ex n t' σ => cases e
      | rt t' σ => cases e
    rw [hr] at hpost
    refine wp_region_any hm (any_snd hT hp hc hl z hro hok (lg' := lg') ops.size _ h t M a (drawn1 w) (by simp) ?_ ?_ ⟨?_, ?_⟩ ⟨s.rel.same rfl, s.tm, hro⟩ rfl (hpost.later ⟨M.le_refl, rfl, rfl, drawn1_below w n0⟩))
    · intro k o hk
      have hk : (Array.replicate ops.size false).getD k false = true := hk
      rw [hS k] at hk; cases hk
    · have : ∀ n, cntU (fun j => (Array.replicate ops.size false).getD j false) n = n := by
        intro n
        induction n with
        | zero => rfl
        | succ n ih => simp only [cntU, hS n]; rw [ih]; omega
      rw [this]
      exact Nat.le_refl _
    · intro b
      rw [lastIn_none _ fun j _ => by show ((Array.replicate ops.size false).getD j false && _) = false; rw [hS j]; rfl]
      show h.get b = (H 0).get b
      rw [q2]
    · intro d
      rw [lastIn_none _ fun j _ => by show ((Array.replicate ops.size false).getD j false && _) = false; rw [hS j]; rfl]
      show t.get d = (T 0).get d
      rw [q1]
  cases res with
  | bad => exact hpost.elim
  | nm t' σ => cases σ; exact main _ _ _ _ rfl
  | ex n t' σ => cases σ; exact main _ _ _ _ rfl
  | rt t' σ => cases σ; exact main _ _ _ _ rfl
theorem vm_snd (hT : TabOk P cx) (hp : PcOk env cx.pc) (hm : P.follows .mixedOrders = true) (hF : FuOk P chkDraw cx) (n : Nat) : CallOk env n0 P (evCall cx n) :=
  call_snd hT hF (ev_snd hT hp hF (fun n hc => draw_snd hT hp hm hc (call_loc (ev_loc cx n) cx)) n)
end
end Go.Vm
