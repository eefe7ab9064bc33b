/- The tables of math/bits, as the laid variables read. -/
import Derived.Test.YtdhnjhbefhmcnaaGreatDoorBitsS
import Derived.Test.YtdhnjhbefhmcnaaGreatDoorDoor
import Derived.OpenShut
import Derived.MakeChecks
import Derived.FnData
set_option linter.unusedVariables false
set_option linter.unusedSimpArgs false
namespace Go.Vm.Bits
open Go.RowKit Go.Proofs Go.Vm
theorem int_of_trod {H : Type} {enc : TypeId × Value → H} {P : Program} {w : World} {base : Nat} {sp : Nat → Bool} {held : Bool} {fuel : Nat} {t : TypeId} {k : IntKind} {c : Value} {y : DataW H × List MemPlace}
    (ht : P.underlying t = some (.int k)) (h : DataW.trod enc P w base sp held fuel t [c] = some y) : ∃ n, c = .int k n ∧ y = (.lit (.int k n), []) := by
  cases fuel with
  | zero => simp [DataW.trod] at h
  | succ fuel =>
    cases c <;> simp [DataW.trod, ht] at h
    rename_i k' n
    obtain ⟨⟨rfl, _⟩, rfl⟩ := h
    exact ⟨n, rfl, rfl⟩
theorem cells_of_trod {H : Type} {enc : TypeId × Value → H} {P : Program} {w : World} {base : Nat} {sp : Nat → Bool} {held : Bool} {fuel n : Nat} {t e : TypeId} {k : IntKind} {cs : List Value} {zs : List Int} {p : List MemPlace}
    (ht : P.underlying t = some (.array n e)) (he : P.underlying e = some (.int k)) (hce : P.cellsOf e = 1) (hct : P.cellsOf t = n) (h : DataW.trod enc P w base sp held fuel t cs = some (.agg (zs.map fun z => .lit (.int k z)), p)) : cs = zs.map (Value.int k) := by
  obtain ⟨xs, m, _, hx, hl, hxl, hi⟩ := DataW.trod_array ht h
  rw [hct] at hl
  simp only [Prod.mk.injEq, DataW.agg.injEq] at hx
  have hz : zs.length = n := by
    have := congrArg List.length hx.1
    simp at this
    omega
  refine List.ext_getElem? fun i => ?_
  by_cases hin : i < n
  · have h1 := hi i hin
    rw [hce, Nat.mul_one] at h1
    have hc : (cs.drop i).take 1 = [cs[i]'(by omega)] := by
      rw [List.drop_eq_getElem_cons (by omega)]; rfl
    rw [hc] at h1
    have hxi : xs[i]? = some (xs[i]'(by omega)) := List.getElem?_eq_getElem (by omega)
    rw [hxi] at h1
    obtain ⟨v, hv, hy⟩ := int_of_trod he h1
    have h2 := congrArg (fun l : List (DataW H) => l[i]?) hx.1
    simp only [List.getElem?_map, hxi, Option.map_some, hy] at h2
    have hzi : zs[i]? = some (zs[i]'(by omega)) := List.getElem?_eq_getElem (by omega)
    rw [hzi] at h2
    simp at h2
    rw [List.getElem?_eq_getElem (by omega), hv, List.getElem?_map, hzi, ← h2]
    rfl
  · rw [List.getElem?_eq_none (by omega), List.getElem?_eq_none (by simp; omega)]
def zs32 : List Int := tab32.map fun n : Nat => (n : Int)
def zs64 : List Int := tab64.map fun n : Nat => (n : Int)
theorem e32 : (Go.Proofs.YtdhnjhbefhmcnaaGreatDoor.Rows.laid_math_bits_deBruijn32tab : DataW Unit) = .agg (zs32.map fun z => .lit (.int .u8 z)) := by kernel_rfl
theorem e64 : (Go.Proofs.YtdhnjhbefhmcnaaGreatDoor.Rows.laid_math_bits_deBruijn64tab : DataW Unit) = .agg (zs64.map fun z => .lit (.int .u8 z)) := by kernel_rfl
theorem tabs_of_laid {W : World} (h : laidMetH Tryz.prog Go.Proofs.YtdhnjhbefhmcnaaGreatDoor.laid2 W) : Tabs W := by
  rw [MakeChecks.laidMetH_plain _ _ _ (by kernel_rfl)] at h
  obtain ⟨ps, ⟨g, t, cs, fuel, p, q, hg, ht, hvar, hd, ⟨g', t', cs', fuel', p', q', hg', ht', hvar', hd', _, _⟩, _⟩, _⟩ := h
  obtain rfl := Option.some.inj ((show Tryz.prog.globalNamed "math/bits.deBruijn32tab" = some 0 by kernel_rfl).symm.trans hg)
  obtain rfl := Option.some.inj ((show Tryz.prog.globalNamed "math/bits.deBruijn64tab" = some 1 by kernel_rfl).symm.trans hg')
  obtain rfl := Option.some.inj ((show (Tryz.prog.globals[0]?).map (·.type) = some 191 by kernel_rfl).symm.trans ht)
  obtain rfl := Option.some.inj ((show (Tryz.prog.globals[1]?).map (·.type) = some 192 by kernel_rfl).symm.trans ht')
  rw [e32] at hd
  rw [e64] at hd'
  have c1 := cells_of_trod (zs := zs32) Tryz.underlying191 Tryz.underlying5 (by kernel_rfl) (by kernel_rfl) hd
  have c2 := cells_of_trod (zs := zs64) Tryz.underlying192 Tryz.underlying5 (by kernel_rfl) (by kernel_rfl) hd'
  have get : ∀ (cs : Array Value) (zs : List Int) (tab : List Nat) (i : Nat), zs = tab.map (fun n : Nat => (n : Int)) → cs.toList = zs.map (Value.int .u8) → i < tab.length → cs[i]? = some (.int .u8 (tab.getD i 0)) := by
    intro cs zs tab i hz hc hi
    subst hz
    have h1 : cs[i]? = cs.toList[i]? := by simp
    rw [h1, hc]
    simp [List.getD, hi]
  exact ⟨fun i hi => (World.var?_cell hg hvar i).trans (get cs zs32 tab32 i rfl c1 hi), fun i hi => (World.var?_cell hg' hvar' i).trans (get cs' zs64 tab64 i rfl c2 hi)⟩
end Go.Vm.Bits
