/- VM: how its small heap stands to the model's memory. -/
import Derived.Test.YtpbnbgjclalpeaaDoorVmBase
import Derived.Below
set_option linter.unusedVariables false
set_option linter.unusedSimpArgs false
namespace Go.Vm
open Go.RowKit

/-- Where a row of the VM lies: its block, from which cell on, how many cells the block has, how many an element. -/
structure Pl where
  blk : Nat
  off : Nat
  sz : Nat
  es : Nat
  ro : Bool       -- read alone
abbrev Mp := Nat → Option Pl
def Mp.le (M M' : Mp) : Prop := ∀ b pl, M b = some pl → M' b = some pl
theorem Mp.le_refl (M : Mp) : M.le M := fun _ _ h => h
theorem Mp.le_trans {A B C : Mp} (h : A.le B) (k : B.le C) : A.le C := fun b pl e => k b pl (h b pl e)

/-- The bytes of a row of bytes told by its runs. -/
noncomputable def bytesOf (r : RL Nat) : List UInt8 := r.toList.map UInt8.ofNat
def okBytes (r : RL Nat) : Prop := ∀ n ∈ r.toList, n < 256

section
variable (env : Nat → Int) (M : Mp)
mutual
inductive VR : V → Value → Prop
  | b (e : BE) : VR (.b e) (.bool (e.den env))
  | i (k : IntKind) (e : IE) : VR (.i k e) (.int k (e.den env))
  | s (r : RL Nat) (s : ByteArray) : s.data.toList = bytesOf r → okBytes r → VR (.s r) (.string s)
  | pn : VR (.p none) (.pointer none)
  | p (b o : Nat) (pl : Pl) : M b = some pl → VR (.p (some (b, o))) (.pointer (some ⟨pl.blk, pl.off + o, none⟩))
  | sn (l c : Nat) : VR (.sl none l c) (.slice none l c)
  | sl (b o l c c' : Nat) (pl : Pl) (a : Addr) : M b = some pl → c ≤ c' → pl.off + o + c' * pl.es ≤ pl.sz → (a = ⟨pl.blk, pl.off + o, none⟩ ∨ c' = 0) → l ≤ c →
      VR (.sl (some (b, o)) l c) (.slice (some a) l c')
  | mn : VR (.m none) (.map none)
  | m (r : Nat) (pl : Pl) : M r = some pl → VR (.m (some r)) (.map (some pl.blk))
  | fn (f : FuncId) (a c : List V) (a' c' : Array Value) : VRs a a'.toList → VRs c c'.toList → VR (.fn f a c) (.func (.func f) a' c')
  | nf : VR .nf .nilFunc
  | ni : VR .ni .nilIface
  | ifc (t : TypeId) (x : V) (x' : Value) : VR x x' → VR (.ifc t x) (.iface t x')
  | agg (l : List V) (c : Array Value) : VRs l c.toList → VR (.agg l) (.agg c)
  | tup (l : List V) (c : Array Value) : VRs l c.toList → VR (.tup l) (.tuple c)
inductive VRs : List V → List Value → Prop
  | nil : VRs [] []
  | cons (x : V) (x' : Value) (l : List V) (l' : List Value) : VR x x' → VRs l l' → VRs (x :: l) (x' :: l')
end
end

theorem VR.mono {env : Nat → Int} {M M' : Mp} (h : M.le M') {v : V} {x : Value} (r : VR env M v x) : VR env M' v x := by
  refine VR.rec (motive_1 := fun v x _ => VR env M' v x) (motive_2 := fun l l' _ => VRs env M' l l') ?_ ?_ ?_ ?_ ?_ ?_ ?_ ?_ ?_ ?_ ?_ ?_ ?_ ?_ ?_ ?_ ?_ r
  · intro e; exact .b e
  · intro k e; exact .i k e
  · intro r s a b; exact .s r s a b
  · exact .pn
  · intro b o pl e; exact .p b o pl (h _ _ e)
  · intro l c; exact .sn l c
  · intro b o l c c' pl a e h1 h2 h3 h4; exact .sl b o l c c' pl a (h _ _ e) h1 h2 h3 h4
  · exact .mn
  · intro r pl e; exact .m r pl (h _ _ e)
  · intro f a c a' c' _ _ h1 h2; exact .fn f a c a' c' h1 h2
  · exact .nf
  · exact .ni
  · intro t x x' _ h1; exact .ifc t x x' h1
  · intro l c _ h1; exact .agg l c h1
  · intro l c _ h1; exact .tup l c h1
  · exact .nil
  · intro x x' l l' _ _ h1 h2; exact .cons x x' l l' h1 h2
theorem VRs.mono {env : Nat → Int} {M M' : Mp} (h : M.le M') : ∀ {l : List V} {l' : List Value}, VRs env M l l' → VRs env M' l l'
  | _, _, .nil => .nil
  | _, _, .cons x x' l l' h1 h2 => .cons x x' l l' (h1.mono h) (VRs.mono h h2)

section
variable {env : Nat → Int} {M : Mp}
theorem VRs.length : ∀ {l : List V} {l' : List Value}, VRs env M l l' → l.length = l'.length
  | _, _, .nil => rfl
  | _, _, .cons _ _ _ _ _ h => by simp [VRs.length h]
theorem VRs.get : ∀ {l : List V} {l' : List Value}, VRs env M l l' → ∀ (i : Nat) v, l[i]? = some v → ∃ x, l'[i]? = some x ∧ VR env M v x
  | _, _, .nil, i, v, h => by simp at h
  | _, _, .cons x x' l l' hx h, i, v, e => by
    cases i with
    | zero => simp at e; subst e; exact ⟨x', rfl, hx⟩
    | succ i => exact VRs.get h i v e
theorem VRs.of_get : ∀ {l : List V} {l' : List Value}, l.length = l'.length → (∀ (i : Nat) v x, l[i]? = some v → l'[i]? = some x → VR env M v x) → VRs env M l l'
  | [], [], _, _ => .nil
  | v :: l, x :: l', h, k => .cons v x l l' (k 0 v x rfl rfl) (VRs.of_get (by simpa using h) fun i v x h1 h2 => k (i + 1) v x h1 h2)
theorem VRs.append : ∀ {a : List V} {a' : List Value} {b : List V} {b' : List Value}, VRs env M a a' → VRs env M b b' → VRs env M (a ++ b) (a' ++ b')
  | _, _, _, _, .nil, h => h
  | _, _, _, _, .cons x x' l l' hx h, k => .cons x x' _ _ hx (VRs.append h k)
theorem VRs.take : ∀ {l : List V} {l' : List Value} (n : Nat), VRs env M l l' → VRs env M (l.take n) (l'.take n)
  | _, _, 0, _ => by simp; exact .nil
  | _, _, _ + 1, .nil => .nil
  | _, _, n + 1, .cons x x' l l' hx h => .cons x x' _ _ hx (VRs.take n h)
theorem VRs.drop : ∀ {l : List V} {l' : List Value} (n : Nat), VRs env M l l' → VRs env M (l.drop n) (l'.drop n)
  | _, _, 0, h => h
  | _, _, _ + 1, .nil => .nil
  | _, _, n + 1, .cons x x' l l' _ h => VRs.drop n h
theorem VRs.replicate {v : V} {x : Value} (h : VR env M v x) (n : Nat) : VRs env M (List.replicate n v) (List.replicate n x) := by
  induction n with
  | zero => exact .nil
  | succ n ih => exact .cons _ _ _ _ h ih
theorem VRs.one {v : V} {x : Value} (h : VR env M v x) : VRs env M [v] [x] := .cons _ _ _ _ h .nil
theorem VR.cells {v : V} {x : Value} (h : VR env M v x) : VRs env M (cellsV v) x.cells.toList := by
  cases h <;> first
    | (rename_i h; exact h)
    | (refine VRs.one ?_; constructor <;> assumption)
theorem VR.oneC {v : V} {x : Value} (h : VR env M v x) (o : oneC v = true) : (match x with | .agg _ => False | .tuple _ => False | _ => True) := by
  cases h <;> simp_all [Vm.oneC]
end

/-- A row of the heap and the model's block. -/
inductive OR (env : Nat → Int) (M : Mp) (pl : Pl) (w : World) : Ob → Prop
  | live (el : TypeId) (ex : Bool) (cs : RL V) (c : Array Value) (el' : TypeId) (fz : Nat × Nat) :
      w.heap[pl.blk]? = some (.cells c el' fz) → c.size = pl.sz → pl.off + cs.toList.length ≤ pl.sz →
      (∀ i v, cs.toList[i]? = some v → ∃ x, c[pl.off + i]? = some x ∧ VR env M v x) →
      (pl.ro = false → ∀ i, i < c.size → ¬ (fz.1 ≤ i ∧ i < fz.2)) → (ex = true → pl.off + cs.toList.length = pl.sz) → OR env M pl w (.cells el pl.es ex true cs)
  | dead (el : TypeId) (es : Nat) (ex : Bool) (cs : RL V) : OR env M pl w (.cells el es ex false cs)
  | map (es : List (V × V)) (ms : Array MapEntry) (clock : Nat) : w.heap[pl.blk]? = some (.map ms clock) →
      VRs env M (es.map (·.1)) (ms.toList.map (·.key)) → VRs env M (es.map (·.2)) (ms.toList.map (·.val)) → OR env M pl w (.map es)
def aliveO : Ob → Bool
  | .cells _ _ _ l _ => l
  | .map _ => true

structure Rel (env : Nat → Int) (n0 : Nat) (M : Mp) (h : Tr Ob) (w : World) : Prop where
  dom : ∀ b, h.get b = none → M b = none
  row : ∀ b ob, h.get b = some ob → ∃ pl, M b = some pl ∧ OR env M pl w ob ∧ (RO ≤ b → n0 ≤ pl.blk ∧ pl.ro = false) ∧ (b < RO → pl.blk < n0) ∧ pl.blk < w.heap.size
  inj : ∀ b b' ob ob' pl pl', h.get b = some ob → h.get b' = some ob' → aliveO ob = true → aliveO ob' = true → RO ≤ b → RO ≤ b' → M b = some pl → M b' = some pl' → pl.blk = pl'.blk → b = b'
  size : n0 ≤ w.heap.size

theorem OR.mono {env : Nat → Int} {M M' : Mp} {pl : Pl} {w w' : World} {ob : Ob} (h : OR env M pl w ob) (hM : M.le M') (hw : aliveO ob = true → w'.heap[pl.blk]? = w.heap[pl.blk]?) : OR env M' pl w' ob := by
  cases h with
  | live el ex cs c el' fz h1 h2 h3 h4 h5 h6 =>
    exact .live el ex cs c el' fz (by rw [hw rfl]; exact h1) h2 h3 (fun i v e => let ⟨x, a, b⟩ := h4 i v e; ⟨x, a, b.mono hM⟩) h5 h6
  | dead el es ex cs => exact .dead el es ex cs
  | map es ms clock h1 h2 h3 => exact .map es ms clock (by rw [hw rfl]; exact h1) (h2.mono hM) (h3.mono hM)
end Go.Vm
