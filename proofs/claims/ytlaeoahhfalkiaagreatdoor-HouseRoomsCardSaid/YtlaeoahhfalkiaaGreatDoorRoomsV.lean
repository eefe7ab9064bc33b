/- The law HouseRooms: what its walk leans on. -/
import Derived.Test.YtlaeoahhfalkiaaGreatDoorRoomsB
import Derived.Test.YtlaeoahhfalkiaaGreatDoorReg0
import Derived.Laws.IdiomStrings
set_option linter.unusedVariables false
namespace Go.Vm.Hr
open Go.Vm Go.Proofs Go.RowKit Go.Sep
theorem begun_c (w : World) : Calls Tryz.prog 6 #[] w fun e w' => e = .returned (.bool true) ∧ Below w.heap.size w w' :=
  tree_calls (cx := cx0) hT_0 mixed_ok (hF_0 _) (by decide) (env := fun _ => 0) (d := .leaf (.c true)) run6 rfl (rel_nil _ w) .nil
theorem keepC2 {w w' : World} {p : Nat} (hk : w'.heap[p]? = w.heap[p]?) {j : Nat} {v : Value} (h : w.cell? ⟨p, j, none⟩ = some v) : w'.cell? ⟨p, j, none⟩ = some v := by
  rw [← h]; exact World.cell?_of_block (a := ⟨p, j, none⟩) hk
theorem frozenC {w w' : World} {p : Nat} (hk : w'.heap[p]? = w.heap[p]?) {j : Nat} (h : w.frozen? ⟨p, j, none⟩ = false) : w'.frozen? ⟨p, j, none⟩ = false := by
  rw [← h]; exact World.frozen?_of_block (a := ⟨p, j, none⟩) hk
theorem nx_two {s : Nat} (h1 : s ≠ 1) (h2 : s ≤ 2) : decide (nx s = 2) = decide (s = 2) := by
  rcases (by omega : s = 0 ∨ s = 2) with rfl | rfl <;> rfl
theorem Sg.le2 {n : Nat} {G : Nat → Option Obj} {m D : Nat} {hp : Pl} {w : World} {ss : Nat → Nat} (H : Sg n G m D hp w ss) {y : Nat} (hy : y < m) : ss y ≤ 2 := by
  obtain ⟨_, _, h, _⟩ := H
  exact (h y hy).2.1
theorem row2 (w : World) (a b : Value) (t : TypeId) : (w.alloc (.cells #[a, b] t)).drew.cell? ⟨w.heap.size, 0, none⟩ = some a ∧ (w.alloc (.cells #[a, b] t)).drew.cell? ⟨w.heap.size, 1, none⟩ = some b := by
  have hh : (w.alloc (.cells #[a, b] t)).drew.heap[w.heap.size]? = _ := heap_alloc_new w (.cells #[a, b] t)
  constructor
  · show (match (w.alloc (.cells #[a, b] t)).drew.heap[w.heap.size]? with | some (.cells c _ _) => c[0]? | _ => none) = some a
    rw [hh]; rfl
  · show (match (w.alloc (.cells #[a, b] t)).drew.heap[w.heap.size]? with | some (.cells c _ _) => c[1]? | _ => none) = some b
    rw [hh]; rfl
theorem row2n (w : World) (a b : Value) (t : TypeId) : (w.alloc (.cells #[a, b] t)).cell? ⟨w.heap.size, 0, none⟩ = some a ∧ (w.alloc (.cells #[a, b] t)).cell? ⟨w.heap.size, 1, none⟩ = some b := row2 w a b t
theorem conv2 {w : World} {p : Nat} (c : UInt8) {cz : Int} (hcz : cz = (c.toNat : Int)) (h0 : w.cell? ⟨p, 0, none⟩ = some (.int .u8 114)) (h1 : w.cell? ⟨p, 1, none⟩ = some (.int .u8 cz)) :
    (convert 22 9 (.slice (some ⟨p, 0, none⟩) 2 2)).run Tryz.prog w = .ok (.string ⟨#[114, c]⟩) w := by
  subst hcz
  refine run_convert_bytes_back w _ _ 5 ⟨p, 0, none⟩ 2 [114, c] Tryz.underlying22 Tryz.underlying5 Tryz.underlying9 (fun j hj => ?_)
  have hj : j < 2 := hj
  rcases (by omega : j = 0 ∨ j = 1) with rfl | rfl
  · exact h0
  · have e : (⟨p, 0, none⟩ : Addr).add 1 = ⟨p, 1, none⟩ := by simp [Addr.add]
    rw [e]; exact h1
theorem convK {w w' : World} (c : UInt8) {cz : Int} (hcz : cz = (c.toNat : Int)) (hk : w'.heap[w.heap.size]? = (w.alloc (.cells #[.int .u8 114, .int .u8 cz] 5)).drew.heap[w.heap.size]?) :
    (convert 22 9 (.slice (some ⟨w.heap.size, 0, none⟩) 2 2)).run Tryz.prog w' = .ok (.string ⟨#[114, c]⟩) w' :=
  conv2 c hcz (keepC2 hk (row2 w (.int .u8 114) (.int .u8 cz) 5).1) (keepC2 hk (row2 w (.int .u8 114) (.int .u8 cz) 5).2)
theorem convN (w : World) (c : UInt8) (cz : Int) (hcz : cz = (c.toNat : Int)) :
    (convert 22 9 (.slice (some ⟨w.heap.size, 0, none⟩) 2 2)).run Tryz.prog (w.alloc (.cells #[.int .u8 114, .int .u8 cz] 5)) = .ok (.string ⟨#[114, c]⟩) (w.alloc (.cells #[.int .u8 114, .int .u8 cz] 5)) :=
  conv2 c hcz (row2n w (.int .u8 114) (.int .u8 cz) 5).1 (row2n w (.int .u8 114) (.int .u8 cz) 5).2
theorem convD (w : World) (c : UInt8) (cz : Int) (hcz : cz = (c.toNat : Int)) :
    (convert 22 9 (.slice (some ⟨w.heap.size, 0, none⟩) 2 2)).run Tryz.prog (w.alloc (.cells #[.int .u8 114, .int .u8 cz] 5)).drew = .ok (.string ⟨#[114, c]⟩) (w.alloc (.cells #[.int .u8 114, .int .u8 cz] 5)).drew :=
  conv2 c hcz (row2 w (.int .u8 114) (.int .u8 cz) 5).1 (row2 w (.int .u8 114) (.int .u8 cz) 5).2
theorem arr8 (w : World) (t : TypeId) (y : Nat) (hy : y < 8) : (w.alloc (.cells #[.bool false, .bool false, .bool false, .bool false, .bool false, .bool false, .bool false, .bool false] t)).cell? ⟨w.heap.size, y, none⟩ = some (.bool (decide ((0 : Nat) = 2))) ∧ (w.alloc (.cells #[.bool false, .bool false, .bool false, .bool false, .bool false, .bool false, .bool false, .bool false] t)).frozen? ⟨w.heap.size, y, none⟩ = false := by
  have hh := heap_alloc_new w (.cells #[.bool false, .bool false, .bool false, .bool false, .bool false, .bool false, .bool false, .bool false] t)
  generalize w.alloc (.cells #[.bool false, .bool false, .bool false, .bool false, .bool false, .bool false, .bool false, .bool false] t) = w' at hh
  rcases (by omega : y = 0 ∨ y = 1 ∨ y = 2 ∨ y = 3 ∨ y = 4 ∨ y = 5 ∨ y = 6 ∨ y = 7) with rfl | rfl | rfl | rfl | rfl | rfl | rfl | rfl <;> simp [World.cell?, World.frozen?, hh]
theorem row_get {k : IntKind} {W : World} {A : Option Addr} {len cap : Nat} {zs : List Int} (y : IsRow k W A len cap zs) : len ≤ cap ∧ ∀ j, j < len → ∃ x, A = some x ∧ (∀ w, Below W.heap.size W w → w.cell? (x.add j) = some (.int k (zs.getD j 0))) ∧ (Lit.int k (zs.getD j 0)).wf = true := by
  rcases y with ⟨rfl, rfl, rfl, rfl⟩ | ⟨x, rfl, hl, hm, hz, hcell, hwf⟩
  · exact ⟨Nat.le_refl _, fun j h => by omega⟩
  · refine ⟨hl, fun j hj => ⟨x, rfl, fun w hb => ?_, ?_⟩⟩
    · have hc := hcell j (by omega)
      rw [← hc]
      have hlt : (x.add j).block < W.heap.size := by
        rcases Nat.lt_or_ge (x.add j).block W.heap.size with h | h
        · exact h
        · exfalso
          simp only [World.cell?] at hc
          rw [Array.getElem?_eq_none h] at hc
          simp at hc
      exact World.cell?_of_block (hb.block _ hlt)
    · refine hwf _ ?_
      rw [List.getD_eq_getElem?_getD, List.getElem?_eq_getElem (by omega)]
      exact List.getElem_mem _
theorem u8_wf {z : Int} (h : (Lit.int .u8 z).wf = true) : 0 ≤ z ∧ z < 256 := by
  have r1 := (Lit.wf_int_iff _ _).1 h
  have m1 : IntKind.min .u8 = 0 := by decide
  have x1 : IntKind.max .u8 = 255 := by decide
  rw [m1, x1] at r1
  omega
end Go.Vm.Hr
