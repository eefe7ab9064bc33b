/- VM: an evaluator of the model's code, and that what it answers the model answers (Base Rel Mem Num). -/
import Derived.Test.YtfjnhdbbjggkmaaVmDefs
import Derived.Below
import Derived.Laws.Sem
import Derived.Laws.BitsLemmas
set_option linter.unusedVariables false
set_option linter.unusedSimpArgs false
namespace Go.Vm
namespace Tr
variable {α : Type}
theorem get1_nil (n : Nat) : get1 (.nil : Tr α) n = none := rfl
theorem get1_node (l : Tr α) (v : Option α) (r : Tr α) (n : Nat) :
    get1 (.node l v r) n = if n = 1 then v else if n % 2 = 1 then get1 r (n / 2) else get1 l (n / 2) := by
  show (Bool.rec (Bool.rec (get1 l (Nat.div n 2)) (get1 r (Nat.div n 2)) (Nat.beq (Nat.mod n 2) 1)) v (Nat.beq n 1) : Option α) = _
  by_cases h : n = 1
  · rw [if_pos h]; subst h; rfl
  · have h1 : Nat.beq n 1 = false := by cases e : Nat.beq n 1; rfl; exact absurd (Nat.eq_of_beq_eq_true e) h
    rw [if_neg h, h1]
    by_cases h2 : n % 2 = 1
    · have : Nat.beq (Nat.mod n 2) 1 = true := by show Nat.beq (n % 2) 1 = true; rw [h2]; rfl
      rw [if_pos h2, this]; rfl
    · have : Nat.beq (Nat.mod n 2) 1 = false := by cases e : Nat.beq (Nat.mod n 2) 1; rfl; exact absurd (Nat.eq_of_beq_eq_true e) h2
      rw [if_neg h2, this]; rfl
theorem path_succ (a : α) (f n : Nat) : path a (f + 1) n = if n = 1 then .node .nil (some a) .nil else if n % 2 = 1 then .node .nil none (path a f (n / 2)) else .node (path a f (n / 2)) none .nil := by
  show (Bool.rec (Bool.rec (.node (path a f (Nat.div n 2)) none .nil) (.node .nil none (path a f (Nat.div n 2))) (Nat.beq (Nat.mod n 2) 1)) (.node .nil (some a) .nil) (Nat.beq n 1) : Tr α) = _
  by_cases h : n = 1
  · rw [if_pos h]; subst h; rfl
  · have h1 : Nat.beq n 1 = false := by cases e : Nat.beq n 1; rfl; exact absurd (Nat.eq_of_beq_eq_true e) h
    rw [if_neg h, h1]
    by_cases h2 : n % 2 = 1
    · have : Nat.beq (Nat.mod n 2) 1 = true := by show Nat.beq (n % 2) 1 = true; rw [h2]; rfl
      rw [if_pos h2, this]; rfl
    · have : Nat.beq (Nat.mod n 2) 1 = false := by cases e : Nat.beq (Nat.mod n 2) 1; rfl; exact absurd (Nat.eq_of_beq_eq_true e) h2
      rw [if_neg h2, this]; rfl
theorem set1_nil (a : α) (n : Nat) : set1 a .nil n = path a n n := rfl
theorem set1_node (a : α) (l : Tr α) (v : Option α) (r : Tr α) (n : Nat) :
    set1 a (.node l v r) n = if n = 1 then .node l (some a) r else if n % 2 = 1 then .node l v (set1 a r (n / 2)) else .node (set1 a l (n / 2)) v r := by
  show (Bool.rec (Bool.rec (.node (set1 a l (Nat.div n 2)) v r) (.node l v (set1 a r (Nat.div n 2))) (Nat.beq (Nat.mod n 2) 1)) (.node l (some a) r) (Nat.beq n 1) : Tr α) = _
  by_cases h : n = 1
  · rw [if_pos h]; subst h; rfl
  · have h1 : Nat.beq n 1 = false := by cases e : Nat.beq n 1; rfl; exact absurd (Nat.eq_of_beq_eq_true e) h
    rw [if_neg h, h1]
    by_cases h2 : n % 2 = 1
    · have : Nat.beq (Nat.mod n 2) 1 = true := by show Nat.beq (n % 2) 1 = true; rw [h2]; rfl
      rw [if_pos h2, this]; rfl
    · have : Nat.beq (Nat.mod n 2) 1 = false := by cases e : Nat.beq (Nat.mod n 2) 1; rfl; exact absurd (Nat.eq_of_beq_eq_true e) h2
      rw [if_neg h2, this]; rfl
theorem get1_path (a : α) : ∀ (f n m : Nat), 1 ≤ n → n ≤ f → 1 ≤ m → get1 (path a f n) m = if m = n then some a else none := by
  intro f
  induction f with
  | zero => intro n m h1 h2 _; omega
  | succ f ih =>
    intro n m h1 h2 h3
    rw [path_succ]
    by_cases hn : n = 1
    · subst hn
      rw [if_pos rfl, get1_node]
      by_cases hm : m = 1
      · simp [hm]
      · rw [if_neg hm, if_neg hm]; split <;> rfl
    · rw [if_neg hn]
      by_cases hp : n % 2 = 1
      · rw [if_pos hp, get1_node]
        by_cases hm : m = 1
        · rw [if_pos hm, if_neg (by omega)]
        · rw [if_neg hm]
          by_cases hq : m % 2 = 1
          · rw [if_pos hq, ih _ _ (by omega) (by omega) (by omega)]
            by_cases e : m = n
            · rw [if_pos e, if_pos (by rw [e])]
            · rw [if_neg e, if_neg (by omega)]
          · rw [if_neg hq, if_neg (by intro e; subst e; exact hq hp)]; rfl
      · rw [if_neg hp, get1_node]
        by_cases hm : m = 1
        · rw [if_pos hm, if_neg (by omega)]
        · rw [if_neg hm]
          by_cases hq : m % 2 = 1
          · rw [if_pos hq, if_neg (by intro e; subst e; exact hp hq)]; rfl
          · rw [if_neg hq, ih _ _ (by omega) (by omega) (by omega)]
            by_cases e : m = n
            · rw [if_pos e, if_pos (by rw [e])]
            · rw [if_neg e, if_neg (by omega)]
theorem get1_set1 (a : α) (t : Tr α) : ∀ (n m : Nat), 1 ≤ n → 1 ≤ m → get1 (set1 a t n) m = if m = n then some a else get1 t m := by
  induction t with
  | nil => intro n m h1 h2; rw [set1_nil, get1_path a n n m h1 (Nat.le_refl _) h2]; rfl
  | node l v r ihl ihr =>
    intro n m h1 h2
    rw [set1_node]
    by_cases hn : n = 1
    · subst hn
      rw [if_pos rfl, get1_node, get1_node]
      by_cases hm : m = 1
      · simp [hm]
      · rw [if_neg hm, if_neg hm, if_neg hm]
    · rw [if_neg hn]
      by_cases hp : n % 2 = 1
      · rw [if_pos hp, get1_node, get1_node]
        by_cases hm : m = 1
        · rw [if_pos hm, if_pos hm, if_neg (by omega)]
        · rw [if_neg hm, if_neg hm]
          by_cases hq : m % 2 = 1
          · rw [if_pos hq, if_pos hq, ihr _ _ (by omega) (by omega)]
            by_cases e : m = n
            · rw [if_pos e, if_pos (by rw [e])]
            · rw [if_neg e, if_neg (by omega)]
          · rw [if_neg hq, if_neg hq, if_neg (by intro e; subst e; exact hq hp)]
      · rw [if_neg hp, get1_node, get1_node]
        by_cases hm : m = 1
        · rw [if_pos hm, if_pos hm, if_neg (by omega)]
        · rw [if_neg hm, if_neg hm]
          by_cases hq : m % 2 = 1
          · rw [if_pos hq, if_pos hq, if_neg (by intro e; subst e; exact hp hq)]
          · rw [if_neg hq, if_neg hq, ihl _ _ (by omega) (by omega)]
            by_cases e : m = n
            · rw [if_pos e, if_pos (by rw [e])]
            · rw [if_neg e, if_neg (by omega)]
theorem get_set (t : Tr α) (n m : Nat) (a : α) : (t.set n a).get m = if m = n then some a else t.get m := by
  show get1 (set1 a t (n + 1)) (m + 1) = _
  rw [get1_set1 a t _ _ (by omega) (by omega)]
  by_cases e : m = n
  · rw [if_pos e, if_pos (by omega)]
  · rw [if_neg e, if_neg (by omega)]; rfl
theorem get_nil (n : Nat) : (Tr.nil : Tr α).get n = none := rfl
end Tr

namespace RL
variable {α : Type}
theorem beq_dec (m n : Nat) : Nat.beq m n = decide (m = n) := by
  cases e : Nat.beq m n
  · rw [decide_eq_false]; intro h; subst h; simp at e
  · rw [decide_eq_true]; exact Nat.eq_of_beq_eq_true e
theorem ble_dec (m n : Nat) : Nat.ble m n = decide (m ≤ n) := by
  cases e : Nat.ble m n
  · rw [decide_eq_false]; intro h; rw [Nat.ble_eq_true_of_le h] at e; cases e
  · rw [decide_eq_true]; exact Nat.le_of_ble_eq_true e
theorem recB {β : Type} (c : Bool) (x y : β) : (Bool.rec x y c : β) = if c = true then y else x := by cases c <;> rfl
theorem toList_nil : toList ([] : RL α) = [] := rfl
theorem reps_eq (n : Nat) (a : α) (r : List α) : reps n a r = List.replicate n a ++ r := by
  induction n with
  | zero => rfl
  | succ n ih => show a :: reps n a r = _; rw [ih]; rfl
theorem toList_cons (x : α × Nat) (r : RL α) : toList (x :: r) = List.replicate x.2 x.1 ++ toList r := reps_eq _ _ _
theorem len_eq (r : RL α) : r.len = r.toList.length := by
  induction r with
  | nil => rfl
  | cons x r ih => rw [toList_cons, List.length_append, List.length_replicate, ← ih]; rfl
theorem get_eq (r : RL α) : ∀ i, r.get i = r.toList[i]? := by
  induction r with
  | nil => intro i; rfl
  | cons x r ih =>
    intro i
    show (Bool.rec (get r (Nat.sub i x.2)) (some x.1) (Nat.ble (Nat.succ i) x.2) : Option α) = _
    rw [recB, ble_dec, toList_cons]
    by_cases h : i < x.2
    · rw [if_pos (by simp; omega), List.getElem?_append_left (by simpa using h)]
      simp [h]
    · rw [if_neg (by simp; omega), List.getElem?_append_right (by simpa using h), ih]
      simp
theorem toList_put (n : Nat) (a : α) (r : RL α) : toList (put n a r) = List.replicate n a ++ toList r := by
  show toList (Bool.rec ((a, n) :: r) r (Nat.beq n 0)) = _
  rw [recB, beq_dec]
  by_cases h : n = 0
  · subst h; simp
  · rw [if_neg (by simpa using h), toList_cons]
theorem toList_set (r : RL α) : ∀ i x, (r.set i x).toList = r.toList.set i x := by
  induction r with
  | nil => intro i x; rfl
  | cons y r ih =>
    intro i x
    show toList (Bool.rec (y :: set r (Nat.sub i y.2) x) (put i y.1 ((x, 1) :: put (Nat.sub (Nat.sub y.2 i) 1) y.1 r)) (Nat.ble (Nat.succ i) y.2)) = _
    rw [recB, ble_dec]
    by_cases h : i < y.2
    · rw [if_pos (by simp; omega), toList_put, toList_cons, toList_put, toList_cons]
      rw [List.set_append_left _ _ (by simpa using h)]
      have e : (List.replicate y.2 y.1).set i x = List.replicate i y.1 ++ (x :: List.replicate (y.2 - i - 1) y.1) := by
        apply List.ext_getElem?
        intro j
        rw [List.getElem?_set, List.length_replicate]
        by_cases hj : i = j
        · subst hj
          simp [h]
        · rw [if_neg hj]
          by_cases h2 : j < i
          · rw [List.getElem?_append_left (by simpa using h2)]; simp [List.getElem?_replicate, h2]; omega
          · rw [List.getElem?_append_right (by simp; omega)]
            obtain ⟨d, hd⟩ : ∃ d, j = i + (d + 1) := ⟨j - i - 1, by omega⟩
            subst hd
            simp only [List.length_replicate, Nat.add_sub_cancel_left, List.getElem?_cons_succ, List.getElem?_replicate]
            by_cases h3 : i + (d + 1) < y.2
            · rw [if_pos h3, if_pos (by omega)]
            · rw [if_neg h3, if_neg (by omega)]
      rw [e]
      simp
    · rw [if_neg (by simp; omega), toList_cons, toList_cons, ih, List.set_append_right _ _ (by simpa using h)]
      simp
theorem toList_drop (r : RL α) : ∀ k, (r.drop k).toList = r.toList.drop k := by
  induction r with
  | nil => intro k; simp [drop, toList]
  | cons y r ih =>
    intro k
    show toList (Bool.rec (drop r (Nat.sub k y.2)) ((y.1, Nat.sub y.2 k) :: r) (Nat.ble (Nat.succ k) y.2)) = _
    rw [recB, ble_dec, toList_cons]
    by_cases h : k < y.2
    · rw [if_pos (by simp; omega), toList_cons, List.drop_append_of_le_length (by simp; omega)]
      simp
    · rw [if_neg (by simp; omega), ih, List.drop_append]
      simp
      omega
theorem toList_take (r : RL α) : ∀ k, (r.take k).toList = r.toList.take k := by
  induction r with
  | nil => intro k; simp [take, toList]
  | cons y r ih =>
    intro k
    show toList (Bool.rec (y :: take r (Nat.sub k y.2)) (put k y.1 []) (Nat.ble (Nat.succ k) y.2)) = _
    rw [recB, ble_dec, toList_cons]
    by_cases h : k < y.2
    · rw [if_pos (by simp; omega), toList_put, List.take_append_of_le_length (by simp; omega)]
      simp [toList_nil, List.take_replicate]
      omega
    · rw [if_neg (by simp; omega), toList_cons, ih, List.take_append]
      simp [List.take_replicate]
      omega
theorem toList_ofList (l : List α) : (ofList l).toList = l := by
  induction l with
  | nil => rfl
  | cons a l ih => show toList ((a, 1) :: ofList l) = _; rw [toList_cons, ih]; rfl
theorem toList_app (a b : RL α) : (app a b).toList = a.toList ++ b.toList := by
  induction a with
  | nil => rfl
  | cons x a ih => show toList (x :: app a b) = _; rw [toList_cons, toList_cons, ih, List.append_assoc]
theorem app1_eq (a b : List α) : app1 a b = a ++ b := by
  induction a with
  | nil => rfl
  | cons x a ih => show x :: app1 a b = _; rw [ih]; rfl
theorem toList_rep (n : Nat) (l : List α) : (rep n l).toList = (List.replicate n l).flatten := by
  have big : ∀ n, toList (Nat.rec [] (fun _ acc => app (ofList l) acc) n : RL α) = (List.replicate n l).flatten := by
    intro n
    induction n with
    | zero => rfl
    | succ n ih =>
      show toList (app (ofList l) (Nat.rec [] (fun _ acc => app (ofList l) acc) n)) = _
      rw [toList_app, ih, toList_ofList, List.replicate_succ, List.flatten_cons]
  unfold rep
  split
  · rename_i a
    rw [toList_put, toList_nil, List.append_nil]
    induction n with
    | zero => rfl
    | succ n ih => rw [List.replicate_succ, List.replicate_succ, List.flatten_cons, ← ih]; rfl
  · exact big n
end RL
theorem setRL_toList (nw cs : RL V) (lo : Nat) : (setRL nw cs lo).toList = cs.toList.take lo ++ (nw.toList ++ cs.toList.drop (lo + nw.toList.length)) := by
  show (RL.app (cs.take lo) (RL.app nw (cs.drop (lo + nw.len)))).toList = _
  rw [RL.toList_app, RL.toList_app, RL.toList_take, RL.toList_drop, RL.len_eq]
end Go.Vm
namespace Go.Vm
open Go.RowKit

/-- Where a row of the VM lies: its block, from which cell on, how many cells the block has, how many an element. -/
structure Pl where
  blk : Nat
  off : Nat
  sz : Nat
  es : Nat
  ro : Bool       -- read alone
abbrev Mp := Nat → Option Pl
def Mp.le (M M' : Mp) : Prop := ∀ b pl, M b = some pl → M' b = some pl
theorem Mp.le_refl (M : Mp) : M.le M := fun _ _ h => h
theorem Mp.le_trans {A B C : Mp} (h : A.le B) (k : B.le C) : A.le C := fun b pl e => k b pl (h b pl e)

/-- The bytes of a row of bytes told by its runs. -/
noncomputable def bytesOf (r : RL Nat) : List UInt8 := r.toList.map UInt8.ofNat
def okBytes (r : RL Nat) : Prop := ∀ n ∈ r.toList, n < 256

section
variable (env : Nat → Int) (M : Mp)
mutual
inductive VR : V → Value → Prop
  | b (e : BE) : VR (.b e) (.bool (e.den env))
  | i (k : IntKind) (e : IE) : VR (.i k e) (.int k (e.den env))
  | s (r : RL Nat) (s : ByteArray) : s.data.toList = bytesOf r → okBytes r → VR (.s r) (.string s)
  | pn : VR (.p none) (.pointer none)
  | p (b o : Nat) (pl : Pl) : M b = some pl → VR (.p (some (b, o))) (.pointer (some ⟨pl.blk, pl.off + o, none⟩))
  | sn (l c : Nat) : VR (.sl none l c) (.slice none l c)
  | sl (b o l c c' : Nat) (pl : Pl) (a : Addr) : M b = some pl → c ≤ c' → pl.off + o + c' * pl.es ≤ pl.sz → (a = ⟨pl.blk, pl.off + o, none⟩ ∨ c' = 0) → l ≤ c →
      VR (.sl (some (b, o)) l c) (.slice (some a) l c')
  | mn : VR (.m none) (.map none)
  | m (r : Nat) (pl : Pl) : M r = some pl → VR (.m (some r)) (.map (some pl.blk))
  | fn (f : FuncId) (a c : List V) (a' c' : Array Value) : VRs a a'.toList → VRs c c'.toList → VR (.fn f a c) (.func (.func f) a' c')
  | nf : VR .nf .nilFunc
  | ni : VR .ni .nilIface
  | ifc (t : TypeId) (x : V) (x' : Value) : VR x x' → VR (.ifc t x) (.iface t x')
  | agg (l : List V) (c : Array Value) : VRs l c.toList → VR (.agg l) (.agg c)
  | tup (l : List V) (c : Array Value) : VRs l c.toList → VR (.tup l) (.tuple c)
inductive VRs : List V → List Value → Prop
  | nil : VRs [] []
  | cons (x : V) (x' : Value) (l : List V) (l' : List Value) : VR x x' → VRs l l' → VRs (x :: l) (x' :: l')
end
end

theorem VR.mono {env : Nat → Int} {M M' : Mp} (h : M.le M') {v : V} {x : Value} (r : VR env M v x) : VR env M' v x := by
  refine VR.rec (motive_1 := fun v x _ => VR env M' v x) (motive_2 := fun l l' _ => VRs env M' l l') ?_ ?_ ?_ ?_ ?_ ?_ ?_ ?_ ?_ ?_ ?_ ?_ ?_ ?_ ?_ ?_ ?_ r
  · intro e; exact .b e
  · intro k e; exact .i k e
  · intro r s a b; exact .s r s a b
  · exact .pn
  · intro b o pl e; exact .p b o pl (h _ _ e)
  · intro l c; exact .sn l c
  · intro b o l c c' pl a e h1 h2 h3 h4; exact .sl b o l c c' pl a (h _ _ e) h1 h2 h3 h4
  · exact .mn
  · intro r pl e; exact .m r pl (h _ _ e)
  · intro f a c a' c' _ _ h1 h2; exact .fn f a c a' c' h1 h2
  · exact .nf
  · exact .ni
  · intro t x x' _ h1; exact .ifc t x x' h1
  · intro l c _ h1; exact .agg l c h1
  · intro l c _ h1; exact .tup l c h1
  · exact .nil
  · intro x x' l l' _ _ h1 h2; exact .cons x x' l l' h1 h2
theorem VRs.mono {env : Nat → Int} {M M' : Mp} (h : M.le M') : ∀ {l : List V} {l' : List Value}, VRs env M l l' → VRs env M' l l'
  | _, _, .nil => .nil
  | _, _, .cons x x' l l' h1 h2 => .cons x x' l l' (h1.mono h) (VRs.mono h h2)

section
variable {env : Nat → Int} {M : Mp}
theorem VRs.length : ∀ {l : List V} {l' : List Value}, VRs env M l l' → l.length = l'.length
  | _, _, .nil => rfl
  | _, _, .cons _ _ _ _ _ h => by simp [VRs.length h]
theorem VRs.get : ∀ {l : List V} {l' : List Value}, VRs env M l l' → ∀ (i : Nat) v, l[i]? = some v → ∃ x, l'[i]? = some x ∧ VR env M v x
  | _, _, .nil, i, v, h => by simp at h
  | _, _, .cons x x' l l' hx h, i, v, e => by
    cases i with
    | zero => simp at e; subst e; exact ⟨x', rfl, hx⟩
    | succ i => exact VRs.get h i v e
theorem VRs.of_get : ∀ {l : List V} {l' : List Value}, l.length = l'.length → (∀ (i : Nat) v x, l[i]? = some v → l'[i]? = some x → VR env M v x) → VRs env M l l'
  | [], [], _, _ => .nil
  | v :: l, x :: l', h, k => .cons v x l l' (k 0 v x rfl rfl) (VRs.of_get (by simpa using h) fun i v x h1 h2 => k (i + 1) v x h1 h2)
theorem VRs.append : ∀ {a : List V} {a' : List Value} {b : List V} {b' : List Value}, VRs env M a a' → VRs env M b b' → VRs env M (a ++ b) (a' ++ b')
  | _, _, _, _, .nil, h => h
  | _, _, _, _, .cons x x' l l' hx h, k => .cons x x' _ _ hx (VRs.append h k)
theorem VRs.take : ∀ {l : List V} {l' : List Value} (n : Nat), VRs env M l l' → VRs env M (l.take n) (l'.take n)
  | _, _, 0, _ => by simp; exact .nil
  | _, _, _ + 1, .nil => .nil
  | _, _, n + 1, .cons x x' l l' hx h => .cons x x' _ _ hx (VRs.take n h)
theorem VRs.drop : ∀ {l : List V} {l' : List Value} (n : Nat), VRs env M l l' → VRs env M (l.drop n) (l'.drop n)
  | _, _, 0, h => h
  | _, _, _ + 1, .nil => .nil
  | _, _, n + 1, .cons x x' l l' _ h => VRs.drop n h
theorem VRs.replicate {v : V} {x : Value} (h : VR env M v x) (n : Nat) : VRs env M (List.replicate n v) (List.replicate n x) := by
  induction n with
  | zero => exact .nil
  | succ n ih => exact .cons _ _ _ _ h ih
theorem VRs.one {v : V} {x : Value} (h : VR env M v x) : VRs env M [v] [x] := .cons _ _ _ _ h .nil
theorem VR.cells {v : V} {x : Value} (h : VR env M v x) : VRs env M (cellsV v) x.cells.toList := by
  cases h <;> first
    | (rename_i h; exact h)
    | (refine VRs.one ?_; constructor <;> assumption)
theorem VR.oneC {v : V} {x : Value} (h : VR env M v x) (o : oneC v = true) : (match x with | .agg _ => False | .tuple _ => False | _ => True) := by
  cases h <;> simp_all [Vm.oneC]
end

/-- No cell below n is frozen: the mark is nowhere, or behind all. -/
def Unfz (n : Nat) (fz : Nat × Nat) : Prop := fz.1 = fz.2 ∨ n ≤ fz.1
theorem Unfz.all {n : Nat} {fz : Nat × Nat} (h : Unfz n fz) (i : Nat) (hi : i < n) : ¬ (fz.1 ≤ i ∧ i < fz.2) := by
  unfold Unfz at h; omega
/-- A row of the heap and the model's block. -/
inductive OR (env : Nat → Int) (M : Mp) (pl : Pl) (w : World) : Ob → Prop
  | live (el : TypeId) (ex : Bool) (cs : RL V) (c : Array Value) (el' : TypeId) (fz : Nat × Nat) :
      w.heap[pl.blk]? = some (.cells c el' fz) → c.size = pl.sz → pl.off + cs.toList.length ≤ pl.sz →
      (∀ i v, cs.toList[i]? = some v → ∃ x, c[pl.off + i]? = some x ∧ VR env M v x) →
      (pl.ro = false → Unfz c.size fz) → (ex = true → pl.off + cs.toList.length = pl.sz) → OR env M pl w (.cells el pl.es ex true cs)
  | dead (el : TypeId) (es : Nat) (ex : Bool) (cs : RL V) : OR env M pl w (.cells el es ex false cs)
  | map (es : List (V × V)) (ms : Array MapEntry) (clock : Nat) : w.heap[pl.blk]? = some (.map ms clock) →
      VRs env M (es.map (·.1)) (ms.toList.map (·.key)) → VRs env M (es.map (·.2)) (ms.toList.map (·.val)) → OR env M pl w (.map es)
def aliveO : Ob → Bool
  | .cells _ _ _ l _ => l
  | .map _ => true

/-- What was there ahead of a call: how many blocks, and what these hold. -/
structure Old where
  n : Nat
  G : Nat → Option Obj
  K : Nat → Prop      -- blocks beside these that stay too
abbrev oldOf (w : World) : Old := ⟨w.heap.size, fun k => w.heap[k]?, fun _ => False⟩
structure Rel (env : Nat → Int) (n0 : Old) (M : Mp) (h : Tr Ob) (w : World) : Prop where
  dom : ∀ b, h.get b = none → M b = none
  row : ∀ b ob, h.get b = some ob → ∃ pl, M b = some pl ∧ OR env M pl w ob ∧ (RO ≤ b → n0.n ≤ pl.blk ∧ pl.ro = false) ∧ (b < RO → pl.blk < n0.n) ∧ pl.blk < w.heap.size
  inj : ∀ b b' ob ob' pl pl', h.get b = some ob → h.get b' = some ob' → aliveO ob = true → aliveO ob' = true → RO ≤ b → RO ≤ b' → M b = some pl → M b' = some pl' → pl.blk = pl'.blk → b = b'
  size : n0.n ≤ w.heap.size
  old : ∀ k, k < n0.n → w.heap[k]? = n0.G k
  kept : ∀ k, n0.K k → k < w.heap.size ∧ w.heap[k]? = n0.G k
  apart : ∀ b pl ob, h.get b = some ob → M b = some pl → RO ≤ b → aliveO ob = true → ¬ n0.K pl.blk

theorem OR.mono {env : Nat → Int} {M M' : Mp} {pl : Pl} {w w' : World} {ob : Ob} (h : OR env M pl w ob) (hM : M.le M') (hw : aliveO ob = true → w'.heap[pl.blk]? = w.heap[pl.blk]?) : OR env M' pl w' ob := by
  cases h with
  | live el ex cs c el' fz h1 h2 h3 h4 h5 h6 =>
    exact .live el ex cs c el' fz (by rw [hw rfl]; exact h1) h2 h3 (fun i v e => let ⟨x, a, b⟩ := h4 i v e; ⟨x, a, b.mono hM⟩) h5 h6
  | dead el es ex cs => exact .dead el es ex cs
  | map es ms clock h1 h2 h3 => exact .map es ms clock (by rw [hw rfl]; exact h1) (h2.mono hM) (h3.mono hM)
end Go.Vm
namespace Go.Vm
open Go.RowKit
variable {env : Nat → Int} {n0 : Old} {M : Mp} {h : Tr Ob} {w : World} {P : Program}

theorem cell_of (pl : Pl) (i : Nat) {c : Array Value} {el : TypeId} {fz : Nat × Nat} (hb : w.heap[pl.blk]? = some (.cells c el fz)) :
    w.cell? ⟨pl.blk, i, none⟩ = c[i]? := by
  simp [World.cell?, hb]
theorem frozen_of (pl : Pl) (i : Nat) {c : Array Value} {el : TypeId} {fz : Nat × Nat} (hb : w.heap[pl.blk]? = some (.cells c el fz))
    (hf : ∀ i, i < c.size → ¬ (fz.1 ≤ i ∧ i < fz.2)) (hi : i < c.size) : w.frozen? ⟨pl.blk, i, none⟩ = false := by
  obtain ⟨lo, hi'⟩ := fz
  have := hf i hi
  simp only [World.frozen?, hb]
  simp at this ⊢
  exact this

/-- What a row that lives tells of the model's block. -/
structure Row (env : Nat → Int) (M : Mp) (w : World) (pl : Pl) (ex : Bool) (cs : RL V) (c : Array Value) (el' : TypeId) (fz : Nat × Nat) : Prop where
  heap : w.heap[pl.blk]? = some (.cells c el' fz)
  size : c.size = pl.sz
  len : pl.off + cs.toList.length ≤ pl.sz
  cell : ∀ i v, cs.toList[i]? = some v → ∃ x, c[pl.off + i]? = some x ∧ VR env M v x
  unfz : pl.ro = false → Unfz c.size fz
  full : ex = true → pl.off + cs.toList.length = pl.sz
theorem Row.free {env : Nat → Int} {M : Mp} {w : World} {pl : Pl} {ex : Bool} {cs : RL V} {c : Array Value} {el' : TypeId} {fz : Nat × Nat} (r : Row env M w pl ex cs c el' fz) (h : pl.ro = false) (i : Nat) (hi : i < c.size) : ¬ (fz.1 ≤ i ∧ i < fz.2) := (r.unfz h).all i hi
theorem Rel.live {b : Nat} {el : TypeId} {es : Nat} {ex : Bool} {cs : RL V} (r : Rel env n0 M h w) (e : h.get b = some (.cells el es ex true cs)) :
    ∃ pl c el' fz, M b = some pl ∧ pl.es = es ∧ Row env M w pl ex cs c el' fz ∧ (RO ≤ b → n0.n ≤ pl.blk ∧ pl.ro = false) ∧ pl.blk < w.heap.size := by
  obtain ⟨pl, h1, h2, h3, _, h5⟩ := r.row b _ e
  cases h2 with
  | live el ex cs c el' fz a1 a2 a3 a4 a5 a6 => exact ⟨pl, c, el', fz, h1, rfl, ⟨a1, a2, a3, a4, a5, a6⟩, h3, h5⟩

/-! ### reading -/
theorem loadFrom_run (a : Addr) (xs : List Value) : ∀ (i : Nat) (acc : Array Value), (∀ j x, xs[j]? = some x → w.cell? (a.add (i + j)) = some x) →
    (loadCellsFrom a i xs.length acc).run P w = .ok (acc ++ xs.toArray) w := by
  induction xs with
  | nil => intro i acc _; simp [loadCellsFrom]
  | cons x xs ih =>
    intro i acc hx
    have h0 := hx 0 x rfl
    simp only [Nat.add_zero] at h0
    simp only [List.length_cons, loadCellsFrom, Sem.run_bind, run_load, h0, Result.andThen_ok]
    rw [ih (i + 1) (acc.push x) (fun j y e => by have := hx (j + 1) y e; rw [show i + 1 + j = i + (j + 1) by omega]; exact this)]
    congr 1
    simp
theorem loadCells_run (a : Addr) (xs : List Value) (hx : ∀ j x, xs[j]? = some x → w.cell? (a.add j) = some x) :
    (loadCells a xs.length).run P w = .ok xs.toArray w := by
  unfold loadCells
  rw [loadFrom_run a xs 0 #[] (fun j x e => by rw [Nat.zero_add]; exact hx j x e)]
  simp
theorem add_eq (blk off n : Nat) : (Addr.mk blk off none).add n = ⟨blk, off + n, none⟩ := by
  unfold Addr.add
  split
  · subst_vars; rfl
  · rfl
/-- So many cells of a row that lives. -/
theorem Row.loads {pl : Pl} {ex : Bool} {cs : RL V} {c : Array Value} {el' : TypeId} {fz : Nat × Nat} (r : Row env M w pl ex cs c el' fz) (lo n : Nat) (hn : lo + n ≤ cs.toList.length) :
    ∃ xs : List Value, xs.length = n ∧ VRs env M ((cs.toList.drop lo).take n) xs ∧ (loadCells ⟨pl.blk, pl.off + lo, none⟩ n).run P w = .ok xs.toArray w ∧
      (∀ j x, xs[j]? = some x → c[pl.off + lo + j]? = some x) := by
  have hsz := r.size
  have hlen := r.len
  have key : ∀ j, j < n → ∃ x, c[pl.off + lo + j]? = some x ∧ ∃ v, cs.toList[lo + j]? = some v ∧ VR env M v x := by
    intro j hj
    have hv : cs.toList[lo + j]? = some (cs.toList[lo + j]'(by omega)) := List.getElem?_eq_getElem (by omega)
    obtain ⟨x, h1, h2⟩ := r.cell _ _ hv
    exact ⟨x, by rw [show pl.off + lo + j = pl.off + (lo + j) by omega]; exact h1, _, hv, h2⟩
  let xs : List Value := (List.range n).map fun j => c.getD (pl.off + lo + j) undef
  have hl : xs.length = n := by simp [xs]
  have hg : ∀ j x, xs[j]? = some x → c[pl.off + lo + j]? = some x := by
    intro j x e
    have hj : j < n := by rw [← hl]; exact (List.getElem?_eq_some_iff.1 e).1
    obtain ⟨y, hy, _⟩ := key j hj
    simp [xs, hj] at e
    rw [hy]
    have : c.getD (pl.off + lo + j) undef = y := by simp [Array.getD_eq_getD_getElem?, hy]
    rw [Array.getD_eq_getD_getElem?, hy] at this
    simp [hy] at e
    rw [e]
  refine ⟨xs, hl, ?_, ?_, hg⟩
  · refine VRs.of_get (by simp [hl]; omega) ?_
    intro i v x h1 h2
    have hi : i < n := by rw [← hl]; exact (List.getElem?_eq_some_iff.1 h2).1
    obtain ⟨y, hy, u, hu, hr⟩ := key i hi
    have hx := hg i x h2
    rw [hy] at hx
    cases hx
    rw [List.getElem?_take, if_pos hi, List.getElem?_drop, hu] at h1
    cases h1
    exact hr
  · rw [← hl]
    refine loadCells_run _ xs ?_
    intro j x e
    rw [add_eq, cell_of pl _ r.heap]
    exact hg j x e

/-! ### laying cells -/
theorem setCell_heap {c : Array Value} {el' : TypeId} {fz : Nat × Nat} (blk i : Nat) (x : Value) (hb : w.heap[blk]? = some (.cells c el' fz)) (k : Nat) :
    (w.setCell ⟨blk, i, none⟩ x).heap[k]? = if k = blk then some (.cells (c.setIfInBounds i x) el' fz) else w.heap[k]? := by
  simp only [World.setCell, Array.getElem?_modify]
  by_cases e : blk = k
  · subst e; rw [if_pos rfl, if_pos rfl, hb]; obtain ⟨a, b⟩ := fz; rfl
  · rw [if_neg e, if_neg (fun e' => e e'.symm)]
/-- Cells laid over a block's, from a place on. -/
def lay (c : Array Value) : Nat → List Value → Array Value
  | _, [] => c
  | i, x :: xs => lay (c.setIfInBounds i x) (i + 1) xs
theorem lay_size : ∀ (xs : List Value) (c : Array Value) (i : Nat), (lay c i xs).size = c.size
  | [], _, _ => rfl
  | x :: xs, c, i => by rw [lay, lay_size xs]; simp
theorem lay_get : ∀ (xs : List Value) (c : Array Value) (i k : Nat), i + xs.length ≤ c.size → (lay c i xs)[k]? = if i ≤ k ∧ k < i + xs.length then xs[k - i]? else c[k]?
  | [], c, i, k, _ => by rw [lay, if_neg (fun e => by have := e.2; simp only [List.length_nil] at this; omega)]
  | x :: xs, c, i, k, h => by
    have h' : i + (xs.length + 1) ≤ c.size := h
    rw [lay, lay_get xs _ _ _ (by simp; omega), List.length_cons]
    by_cases e : k = i
    · subst e
      rw [if_neg (by omega), if_pos (by omega)]
      simp [Array.getElem?_setIfInBounds]
      omega
    · by_cases h2 : i + 1 ≤ k ∧ k < i + 1 + xs.length
      · rw [if_pos h2, if_pos (by omega), show k - i = (k - (i + 1)) + 1 by omega]; rfl
      · rw [if_neg h2, if_neg (by omega)]
        rw [Array.getElem?_setIfInBounds, if_neg (by omega)]
def oneCell (x : Value) : Prop := match x with
  | .agg _ => False
  | .tuple _ => False
  | _ => True
theorem store_run {c : Array Value} {el' : TypeId} {fz : Nat × Nat} (blk i : Nat) (x : Value) (hb : w.heap[blk]? = some (.cells c el' fz)) (hi : i < c.size)
    (hf : ∀ i, i < c.size → ¬ (fz.1 ≤ i ∧ i < fz.2)) (h1 : oneCell x) : (store ⟨blk, i, none⟩ x).run P w = .ok () (w.setCell ⟨blk, i, none⟩ x) := by
  have hc : w.cell? ⟨blk, i, none⟩ = some c[i] := by rw [cell_of ⟨blk, 0, 0, 0, false⟩ i hb]; simp [hi]
  have hz := frozen_of (w := w) ⟨blk, 0, 0, 0, false⟩ i hb hf hi
  rw [run_store _ _ _ _ _ (by cases x <;> simp_all [oneCell, Value.oneCell']), hc]
  simp only [hz]
  rfl
theorem setCell_below {B : Nat} (blk i : Nat) (x : Value) (hn : B ≤ blk) : Below B w (w.setCell ⟨blk, i, none⟩ x) :=
  (Below.refl B w).setCell (p := ⟨blk, i, none⟩) hn x
theorem storeCells_run (blk : Nat) (el' : TypeId) (fz : Nat × Nat) (off : Nat) : ∀ (xs : List Value) (i : Nat) (w : World) (c : Array Value),
    w.heap[blk]? = some (.cells c el' fz) → off + i + xs.length ≤ c.size → (∀ i, i < c.size → ¬ (fz.1 ≤ i ∧ i < fz.2)) → (∀ x ∈ xs, oneCell x) →
    ∃ w', (storeCells ⟨blk, off, none⟩ xs i).run P w = .ok () w' ∧ w'.heap[blk]? = some (.cells (lay c (off + i) xs) el' fz) ∧ w'.heap.size = w.heap.size ∧
      (∀ k, k ≠ blk → w'.heap[k]? = w.heap[k]?) ∧ (∀ n, n ≤ w.heap.size → n ≤ blk → Below n w w')
  | [], i, w, c, hb, _, _, _ => ⟨w, rfl, hb, rfl, fun _ _ => rfl, fun n _ _ => Below.refl n w⟩
  | x :: xs, i, w, c, hb, hl, hf, h1 => by
    simp only [List.length_cons] at hl
    have hst := store_run (P := P) blk (off + i) x hb (by omega) hf (h1 x (by simp))
    have hb' : (w.setCell ⟨blk, off + i, none⟩ x).heap[blk]? = some (.cells (c.setIfInBounds (off + i) x) el' fz) := by rw [setCell_heap _ _ _ hb, if_pos rfl]
    have hsz : (w.setCell ⟨blk, off + i, none⟩ x).heap.size = w.heap.size := by simp [World.setCell]
    obtain ⟨w', r1, r2, r3, r4, r5⟩ := storeCells_run blk el' fz off xs (i + 1) _ _ hb' (by simp; omega) (by simpa using hf) (fun y hy => h1 y (by simp [hy]))
    refine ⟨w', ?_, ?_, by rw [r3, hsz], ?_, ?_⟩
    · simp only [storeCells, Sem.run_bind, add_eq, hst, Result.andThen_ok, r1]
    · rw [r2, lay]; rfl
    · intro k hk; rw [r4 k hk, setCell_heap _ _ _ hb, if_neg hk]
    · intro n hn hbn; exact (setCell_below _ _ _ hbn).trans (r5 n (by rw [hsz]; exact hn) hbn)

/-- A row that lives, with new cells laid in the model's block: what the relation wants. -/
theorem Rel.write (r : Rel env n0 M h w) {b : Nat} {el : TypeId} {es : Nat} {ex : Bool} {cs cs' : RL V} (e : h.get b = some (.cells el es ex true cs)) {pl : Pl} (hM : M b = some pl) (hRO : RO ≤ b)
    {w' : World} {c' : Array Value} {el' : TypeId} {fz : Nat × Nat}
    (hb : w'.heap[pl.blk]? = some (.cells c' el' fz)) (hk : ∀ k, k ≠ pl.blk → w'.heap[k]? = w.heap[k]?) (hsz : w'.heap.size = w.heap.size)
    (h1 : c'.size = pl.sz) (h2 : cs'.toList.length = cs.toList.length) (h3 : ∀ i v, cs'.toList[i]? = some v → ∃ x, c'[pl.off + i]? = some x ∧ VR env M v x)
    (h4 : Unfz c'.size fz) : Rel env n0 M (h.set b (.cells el es ex true cs')) w' := by
  have hlive := r.live e
  obtain ⟨pl0, c0, e0, fz0, hM0, hes, row0, hn0, hlt⟩ := hlive
  rw [hM] at hM0; cases hM0
  have hlen := row0.len
  have hfull := row0.full
  refine ⟨?_, ?_, ?_, by rw [hsz]; exact r.size, fun k hk' => (hk k (by have := (hn0 hRO).1; omega)).trans (r.old k hk'), fun k hk' => ⟨by rw [hsz]; exact (r.kept k hk').1, (hk k (fun ek => r.apart b pl _ e hM hRO rfl (by rw [← ek]; exact hk'))).trans (r.kept k hk').2⟩, fun kk pl' ob hob hM' hro hal => by
    rw [Tr.get_set] at hob
    by_cases ek : kk = b
    · subst ek; exact r.apart _ pl' _ e hM' hro rfl
    · rw [if_neg ek] at hob; exact r.apart kk pl' ob hob hM' hro hal⟩
  · intro k hk'
    rw [Tr.get_set] at hk'
    split at hk'
    · cases hk'
    · exact r.dom k hk'
  · intro k ob hob
    rw [Tr.get_set] at hob
    by_cases ek : k = b
    · subst ek
      rw [if_pos rfl] at hob
      cases hob
      refine ⟨pl, hM, ?_, hn0, fun hlt' => by omega, by rw [hsz]; exact hlt⟩
      subst hes
      exact .live el ex cs' c' el' fz hb h1 (by rw [h2]; exact hlen) h3 (fun _ => h4) (fun hx => by rw [h2]; exact hfull hx)
    · rw [if_neg ek] at hob
      obtain ⟨plk, m1, m2, m3, m4, m5⟩ := r.row k ob hob
      refine ⟨plk, m1, m2.mono M.le_refl (fun ha => ?_), m3, m4, by rw [hsz]; exact m5⟩
      refine hk _ fun hne => ek ?_
      by_cases hro : RO ≤ k
      · exact r.inj k b ob _ plk pl hob e ha rfl hro hRO m1 hM hne
      · have := m4 (by omega); have := (hn0 hRO).1; omega
  · intro a a' oa oa' pa pa' g1 g2 l1 l2 ro1 ro2 m1 m2 hbk
    rw [Tr.get_set] at g1 g2
    have get : ∀ a oa, (if a = b then some (Ob.cells el es ex true cs') else h.get a) = some oa → aliveO oa = true → ∃ oo, h.get a = some oo ∧ aliveO oo = true := by
      intro a oa g l
      by_cases ea : a = b
      · subst ea; exact ⟨_, e, rfl⟩
      · rw [if_neg ea] at g; exact ⟨oa, g, l⟩
    obtain ⟨o1, g1', l1'⟩ := get a oa g1 l1
    obtain ⟨o2, g2', l2'⟩ := get a' oa' g2 l2
    exact r.inj a a' o1 o2 pa pa' g1' g2' l1' l2' ro1 ro2 m1 m2 hbk

/-! ### new rows -/
def Mp.add (M : Mp) (n : Nat) (pl : Pl) : Mp := fun b => if b = n then some pl else M b
theorem Mp.le_add {n : Nat} {pl : Pl} (hn : M n = none) : M.le (M.add n pl) := by
  intro b p e
  unfold Mp.add
  rw [if_neg (by intro hb; subst hb; rw [hn] at e; cases e)]
  exact e
theorem push_get (w : World) (o : Obj) (k : Nat) : (w.heap.push o)[k]? = if k = w.heap.size then some o else w.heap[k]? := by
  rw [Array.getElem?_push]
/-- A new object behind all others. -/
theorem Rel.push (r : Rel env n0 M h w) {n : Nat} (hn : h.get n = none) (hRO : RO ≤ n) {ob : Ob} {o : Obj} {pl : Pl} (hpl : pl.blk = w.heap.size) (hpr : pl.ro = false)
    (ho : ∀ w' : World, w'.heap[pl.blk]? = some o → OR env (M.add n pl) pl w' ob) :
    Rel env n0 (M.add n pl) (h.set n ob) { w with heap := w.heap.push o } := by
  have hle : M.le (M.add n pl) := Mp.le_add (r.dom n hn)
  have hs := r.size
  refine ⟨?_, ?_, ?_, by simp; omega, fun k hk => by show (w.heap.push o)[k]? = _; rw [push_get, if_neg (by omega)]; exact r.old k hk,
    fun k hk => ⟨by have := (r.kept k hk).1; simp; omega, by show (w.heap.push o)[k]? = _; rw [push_get, if_neg (by have := (r.kept k hk).1; omega)]; exact (r.kept k hk).2⟩, fun kk pl' ob' hob hM' hro hal => by
    rw [Tr.get_set] at hob
    unfold Mp.add at hM'
    by_cases ek : kk = n
    · rw [if_pos ek] at hM'
      cases hM'
      intro hK
      have := (r.kept _ hK).1
      omega
    · rw [if_neg ek] at hob hM'
      exact r.apart kk pl' ob' hob hM' hro hal⟩
  · intro k hk
    rw [Tr.get_set] at hk
    by_cases ek : k = n
    · rw [if_pos ek] at hk; cases hk
    · rw [if_neg ek] at hk; unfold Mp.add; rw [if_neg ek]; exact r.dom k hk
  · intro k ob' hob
    rw [Tr.get_set] at hob
    by_cases ek : k = n
    · subst ek
      rw [if_pos rfl] at hob
      cases hob
      refine ⟨pl, by unfold Mp.add; rw [if_pos rfl], ho _ ?_, fun _ => ⟨by omega, hpr⟩, fun hlt => by omega, by simp; omega⟩
      show (w.heap.push o)[pl.blk]? = _
      rw [push_get, if_pos hpl]
    · rw [if_neg ek] at hob
      obtain ⟨plk, m1, m2, m3, m4, m5⟩ := r.row k ob' hob
      refine ⟨plk, hle _ _ m1, m2.mono hle (fun _ => ?_), m3, m4, by simp; omega⟩
      show (w.heap.push o)[plk.blk]? = _
      rw [push_get, if_neg (by omega)]
  · intro a a' oa oa' pa pa' g1 g2 l1 l2 ro1 ro2 m1 m2 hbk
    rw [Tr.get_set] at g1 g2
    unfold Mp.add at m1 m2
    by_cases ea : a = n
    · by_cases ea' : a' = n
      · omega
      · rw [if_pos ea] at m1; rw [if_neg ea'] at m2 g2
        cases m1
        obtain ⟨plk, k1, _, _, _, k5⟩ := r.row a' oa' g2
        rw [m2] at k1; cases k1
        omega
    · by_cases ea' : a' = n
      · rw [if_neg ea] at m1 g1; rw [if_pos ea'] at m2
        cases m2
        obtain ⟨plk, k1, _, _, _, k5⟩ := r.row a oa g1
        rw [m1] at k1; cases k1
        omega
      · rw [if_neg ea] at m1 g1; rw [if_neg ea'] at m2 g2
        exact r.inj a a' oa oa' pa pa' g1 g2 l1 l2 ro1 ro2 m1 m2 hbk
theorem push_below {B : Nat} (hs : B ≤ w.heap.size) (o : Obj) : Below B w { w with heap := w.heap.push o } := (Below.refl B w).alloc hs o
/-- A row of known cells, new. -/
theorem OR.fresh {M : Mp} {el : TypeId} {ex : Bool} {cs : RL V} {xs : List Value} {rest : Array Value} {e : TypeId} {pl : Pl} {w : World} (h : VRs env M cs.toList xs)
    (hoff : pl.off = 0) (hsz : pl.sz = xs.length + rest.size) (hex : ex = true → rest.size = 0)
    (hb : w.heap[pl.blk]? = some (.cells (xs.toArray ++ rest) e (0, 0))) : OR env M pl w (.cells el pl.es ex true cs) := by
  have hl := h.length
  refine .live el ex cs _ e (0, 0) hb (by simp [hsz]) (by omega) ?_ (fun _ => .inl rfl) (fun hx => by have := hex hx; omega)
  intro i v hv
  obtain ⟨x, h1, h2⟩ := h.get i v hv
  refine ⟨x, ?_, h2⟩
  have hi : i < xs.length := (List.getElem?_eq_some_iff.1 h1).1
  rw [hoff, Nat.zero_add, Array.getElem?_append_left (by simpa using hi)]
  simpa using h1
/-- A draw of the tape turns nothing. -/
theorem Rel.same (r : Rel env n0 M h w) {w' : World} (hw : w'.heap = w.heap) : Rel env n0 M h w' :=
  ⟨r.dom, fun b ob e => let ⟨pl, a, c, d, f, g⟩ := r.row b ob e; ⟨pl, a, c.mono M.le_refl (fun _ => by rw [hw]), d, f, by rw [hw]; exact g⟩, r.inj, by rw [hw]; exact r.size, fun k hk => by rw [hw]; exact r.old k hk, fun k hk => by rw [hw]; exact r.kept k hk, r.apart⟩

/-! ### rows let go -/
theorem Rel.kill (r : Rel env n0 M h w) {b : Nat} {el : TypeId} {es : Nat} {ex : Bool} {cs : RL V} (e : h.get b = some (.cells el es ex true cs)) :
    Rel env n0 M (h.set b (.cells el es ex false cs)) w := by
  refine ⟨?_, ?_, ?_, r.size, r.old, r.kept, fun kk pl' ob hob hM' hro hal => by
    rw [Tr.get_set] at hob
    by_cases ek : kk = b
    · subst ek; exact r.apart _ pl' _ e hM' hro rfl
    · rw [if_neg ek] at hob; exact r.apart kk pl' ob hob hM' hro hal⟩
  · intro k hk
    rw [Tr.get_set] at hk
    split at hk
    · cases hk
    · exact r.dom k hk
  · intro k ob hob
    rw [Tr.get_set] at hob
    by_cases ek : k = b
    · subst ek
      rw [if_pos rfl] at hob
      cases hob
      obtain ⟨pl, m1, m2, m3, m4, m5⟩ := r.row k _ e
      exact ⟨pl, m1, .dead el es ex cs, m3, m4, m5⟩
    · rw [if_neg ek] at hob; exact r.row k ob hob
  · intro a a' oa oa' pa pa' g1 g2 l1 l2 ro1 ro2 m1 m2 hbk
    rw [Tr.get_set] at g1 g2
    have get : ∀ a oa, (if a = b then some (Ob.cells el es ex false cs) else h.get a) = some oa → aliveO oa = true → h.get a = some oa := by
      intro a oa g l
      by_cases ea : a = b
      · rw [if_pos ea] at g; cases g; cases l
      · rw [if_neg ea] at g; exact g
    exact r.inj a a' oa oa' pa pa' (get a oa g1 l1) (get a' oa' g2 l2) l1 l2 ro1 ro2 m1 m2 hbk
/-- A row that takes a dead row's block over. -/
theorem Rel.take (r : Rel env n0 M h w) {n : Nat} (hn : h.get n = none) (hRO : RO ≤ n) {b : Nat} {pl : Pl} (hM : M b = some pl) (hb : RO ≤ b) {el : TypeId} {es : Nat} {ex : Bool} {cs : RL V}
    (e : h.get b = some (.cells el es ex false cs)) (hone : ∀ k ob p, h.get k = some ob → aliveO ob = true → RO ≤ k → M k = some p → p.blk ≠ pl.blk) (hnK : ¬ n0.K pl.blk)
    {w' : World} (hk : ∀ k, k ≠ pl.blk → w'.heap[k]? = w.heap[k]?) (hsz : w'.heap.size = w.heap.size) {ob : Ob} {pl' : Pl} (hpl : pl'.blk = pl.blk) (hpr : pl'.ro = false) (ho : OR env (M.add n pl') pl' w' ob) :
    Rel env n0 (M.add n pl') (h.set n ob) w' := by
  have hle : M.le (M.add n pl') := Mp.le_add (r.dom n hn)
  obtain ⟨pl0, b1, _, b3, _, b5⟩ := r.row b _ e
  rw [hM] at b1; cases b1
  have hbn := (b3 hb).1
  refine ⟨?_, ?_, ?_, by rw [hsz]; exact r.size, fun k hk' => (hk k (by omega)).trans (r.old k hk'), fun k hk' => ⟨by rw [hsz]; exact (r.kept k hk').1, (hk k (fun ek => hnK (by rw [← ek]; exact hk'))).trans (r.kept k hk').2⟩, fun kk p2 ob' hob hM' hro hal => by
    rw [Tr.get_set] at hob
    unfold Mp.add at hM'
    by_cases ek : kk = n
    · rw [if_pos ek] at hM'
      cases hM'
      rw [hpl]
      exact hnK
    · rw [if_neg ek] at hob hM'
      exact r.apart kk p2 ob' hob hM' hro hal⟩
  · intro k hk
    rw [Tr.get_set] at hk
    by_cases ek : k = n
    · rw [if_pos ek] at hk; cases hk
    · rw [if_neg ek] at hk; unfold Mp.add; rw [if_neg ek]; exact r.dom k hk
  · intro k ob' hob
    rw [Tr.get_set] at hob
    by_cases ek : k = n
    · subst ek
      rw [if_pos rfl] at hob
      cases hob
      exact ⟨pl', by unfold Mp.add; rw [if_pos rfl], ho, fun _ => ⟨by omega, hpr⟩, fun hlt => by omega, by rw [hsz]; omega⟩
    · rw [if_neg ek] at hob
      obtain ⟨plk, m1, m2, m3, m4, m5⟩ := r.row k ob' hob
      refine ⟨plk, hle _ _ m1, m2.mono hle (fun ha => hk _ ?_), m3, m4, by rw [hsz]; exact m5⟩
      by_cases hro : RO ≤ k
      · exact hone k ob' plk hob ha hro m1
      · have := m4 (by omega); omega
  · intro a a' oa oa' pa pa' g1 g2 l1 l2 ro1 ro2 m1 m2 hbk
    rw [Tr.get_set] at g1 g2
    unfold Mp.add at m1 m2
    by_cases ea : a = n
    · by_cases ea' : a' = n
      · omega
      · rw [if_pos ea] at m1; rw [if_neg ea'] at m2 g2
        cases m1
        exact absurd (hbk.symm.trans hpl) (hone a' oa' pa' g2 l2 ro2 m2)
    · by_cases ea' : a' = n
      · rw [if_neg ea] at m1 g1; rw [if_pos ea'] at m2
        cases m2
        exact absurd (hbk.trans hpl) (hone a oa pa g1 l1 ro1 m1)
      · rw [if_neg ea] at m1 g1; rw [if_neg ea'] at m2 g2
        exact r.inj a a' oa oa' pa pa' g1 g2 l1 l2 ro1 ro2 m1 m2 hbk

/-! ### maps -/
theorem Rel.setMap (r : Rel env n0 M h w) {b : Nat} {es es' : List (V × V)} (e : h.get b = some (.map es)) (hRO : RO ≤ b) {pl : Pl} (hM : M b = some pl) {ms : Array MapEntry} {clock : Nat}
    (h1 : VRs env M (es'.map (·.1)) (ms.toList.map (·.key))) (h2 : VRs env M (es'.map (·.2)) (ms.toList.map (·.val))) :
    Rel env n0 M (h.set b (.map es')) { w with heap := w.heap.setIfInBounds pl.blk (.map ms clock) } := by
  obtain ⟨pl0, b1, _, b3, _, b5⟩ := r.row b _ e
  rw [hM] at b1; cases b1
  have hbn := b3 hRO
  refine ⟨?_, ?_, ?_, by simpa using r.size, fun k hk' => by show (w.heap.setIfInBounds pl.blk _)[k]? = _; rw [Array.getElem?_setIfInBounds_ne (by omega)]; exact r.old k hk', fun k hk' => ⟨by simpa using (r.kept k hk').1, by show (w.heap.setIfInBounds pl.blk _)[k]? = _; rw [Array.getElem?_setIfInBounds_ne (fun ek => r.apart b pl _ e hM hRO rfl (by rw [ek]; exact hk'))]; exact (r.kept k hk').2⟩, fun kk pl' ob hob hM' hro hal => by
    rw [Tr.get_set] at hob
    by_cases ek : kk = b
    · subst ek; exact r.apart _ pl' _ e hM' hro rfl
    · rw [if_neg ek] at hob; exact r.apart kk pl' ob hob hM' hro hal⟩
  · intro k hk'
    rw [Tr.get_set] at hk'
    split at hk'
    · cases hk'
    · exact r.dom k hk'
  · intro k ob hob
    rw [Tr.get_set] at hob
    by_cases ek : k = b
    · subst ek
      rw [if_pos rfl] at hob
      cases hob
      refine ⟨pl, hM, .map es' ms clock ?_ h1 h2, b3, fun hlt' => by omega, by simpa using b5⟩
      simp [b5]
    · rw [if_neg ek] at hob
      obtain ⟨plk, m1, m2, m3, m4, m5⟩ := r.row k ob hob
      refine ⟨plk, m1, m2.mono M.le_refl (fun ha => ?_), m3, m4, by simpa using m5⟩
      have hne : pl.blk ≠ plk.blk := fun hne => ek (by
        by_cases hro : RO ≤ k
        · exact r.inj k b ob _ plk pl hob e ha rfl hro hRO m1 hM hne.symm
        · have := m4 (by omega); omega)
      simp [hne]
  · intro a a' oa oa' pa pa' g1 g2 l1 l2 ro1 ro2 m1 m2 hbk
    rw [Tr.get_set] at g1 g2
    have get : ∀ a oa, (if a = b then some (Ob.map es') else h.get a) = some oa → aliveO oa = true → ∃ oo, h.get a = some oo ∧ aliveO oo = true := by
      intro a oa g l
      by_cases ea : a = b
      · subst ea; exact ⟨_, e, rfl⟩
      · rw [if_neg ea] at g; exact ⟨oa, g, l⟩
    obtain ⟨o1, g1', l1'⟩ := get a oa g1 l1
    obtain ⟨o2, g2', l2'⟩ := get a' oa' g2 l2
    exact r.inj a a' o1 o2 pa pa' g1' g2' l1' l2' ro1 ro2 m1 m2 hbk
theorem setMap_below {B : Nat} (blk : Nat) (o : Obj) (hn : B ≤ blk) : Below B w { w with heap := w.heap.setIfInBounds blk o } :=
  ⟨rfl, rfl, rfl, by simp, fun k hk => by simp [Array.getElem?_setIfInBounds]; intro e; omega⟩
end Go.Vm
namespace Go.Vm
theorem ieqb_eq (a b : Int) : ieqb a b = (a == b) := by
  cases a <;> cases b <;> simp only [ieqb, RL.beq_dec]
  all_goals (rw [Bool.eq_iff_iff]; simp)
  all_goals omega
theorem ileb_eq (a b : Int) : ileb a b = decide (a ≤ b) := by
  cases a <;> cases b <;> simp only [ileb, RL.ble_dec] <;> rw [Bool.eq_iff_iff] <;> simp <;> omega
theorem iltb_eq (a b : Int) : iltb a b = decide (a < b) := by
  unfold iltb; rw [ileb_eq, Bool.eq_iff_iff]; simp
theorem keq_eq (a b : IntKind) : keq a b = true ↔ a = b := by cases a <;> cases b <;> decide
theorem two_eq (k : IntKind) : (two k : Int) = 2 ^ k.bits := by cases k <;> rfl
theorem two_nat (k : IntKind) : two k = 2 ^ k.bits := by cases k <;> rfl
theorem bitsN_eq (k : IntKind) : bitsN k = k.bits := by cases k <;> rfl
theorem sgn_eq (k : IntKind) : sgn k = k.signed := by cases k <;> rfl
theorem two_pos (k : IntKind) : 0 < two k := by cases k <;> decide
theorem imod_eq (n : Int) (m : Nat) (hm : 0 < m) : ((imod n m : Nat) : Int) = n % (m : Int) := by
  cases n with
  | ofNat a => rfl
  | negSucc a =>
    show ((Nat.sub (Nat.sub m 1) (a % m) : Nat) : Int) = _
    have h1 : a % m < m := Nat.mod_lt _ hm
    have h2 : Int.negSucc a = (m : Int) - 1 - (a % m : Nat) + (m : Int) * (-1 - (a / m : Nat)) := by
      have := Nat.div_add_mod a m
      rw [Int.negSucc_eq]
      have e : (a : Int) = (m : Int) * ((a / m : Nat) : Int) + ((a % m : Nat) : Int) := by exact_mod_cast this.symm
      rw [e, Int.mul_sub]
      omega
    rw [h2, Int.add_mul_emod_self_left, Int.emod_eq_of_lt (by omega) (by omega)]
    show (((m - 1) - a % m : Nat) : Int) = _
    omega
theorem half (k : IntKind) : two k / 2 = 2 ^ (k.bits - 1) := by cases k <;> rfl
theorem wrapB_eq (k : IntKind) (m : Nat) (h : m < two k) : wrapB (sgn k) m (two k) = k.wrap (m : Int) := by
  have e : ((m : Int) % (2 ^ k.bits : Int)) = m := by rw [← two_eq]; exact Int.emod_eq_of_lt (by omega) (by omega)
  unfold IntKind.wrap
  simp only [e]
  rw [sgn_eq]
  cases hs : k.signed with
  | false => simp [wrapB]
  | true =>
    show (match Nat.ble (two k / 2) m with | true => Int.subNatNat m (two k) | false => Int.ofNat m) = _
    rw [RL.ble_dec, half]
    by_cases hm : 2 ^ (k.bits - 1) ≤ m
    · rw [decide_eq_true hm, if_pos (by simp; exact_mod_cast hm)]
      simp only [Int.subNatNat_eq_coe, two_eq]
    · rw [decide_eq_false hm, if_neg (by simp; exact_mod_cast Nat.lt_of_not_le hm)]
      rfl
theorem wrap_mod (k : IntKind) (n : Int) : k.wrap (n % (two k : Int)) = k.wrap n := by
  unfold IntKind.wrap
  simp only [two_eq, Int.emod_emod]
theorem wrapF_eq (k : IntKind) (n : Int) : wrapF k n = k.wrap n := by
  unfold wrapF
  have h := imod_eq n (two k) (two_pos k)
  rw [wrapB_eq k _ (by have := Int.emod_lt_of_pos n (show (0 : Int) < two k by have := two_pos k; omega); omega), h, wrap_mod]
theorem imod_lt (n : Int) (k : IntKind) : imod n (two k) < two k := by
  have h := imod_eq n (two k) (two_pos k)
  have := Int.emod_lt_of_pos n (show (0 : Int) < two k by have := two_pos k; omega)
  omega
theorem ofInt_nat (k : IntKind) (n : Int) : (BitVec.ofInt k.bits n).toNat = imod n (two k) := by
  have h := imod_eq n (two k) (two_pos k)
  rw [BitVec.toNat_ofInt, ← two_nat, ← h]
  rfl
theorem andF_eq (k : IntKind) (x y : Int) : andF k x y = k.wrap ((BitVec.ofInt k.bits x &&& BitVec.ofInt k.bits y).toNat : Nat) := by
  unfold andF
  rw [BitVec.toNat_and, ofInt_nat, ofInt_nat]
  exact wrapB_eq k _ (by have := imod_lt x k; rw [two_nat] at *; exact Nat.and_lt_two_pow _ (by have := imod_lt y k; rw [two_nat] at this; exact this))
theorem orF_eq (k : IntKind) (x y : Int) : orF k x y = k.wrap ((BitVec.ofInt k.bits x ||| BitVec.ofInt k.bits y).toNat : Nat) := by
  unfold orF
  rw [BitVec.toNat_or, ofInt_nat, ofInt_nat]
  exact wrapB_eq k _ (by have h1 := imod_lt x k; have h2 := imod_lt y k; rw [two_nat] at *; exact Nat.or_lt_two_pow h1 h2)
theorem xorF_eq (k : IntKind) (x y : Int) : xorF k x y = k.wrap ((BitVec.ofInt k.bits x ^^^ BitVec.ofInt k.bits y).toNat : Nat) := by
  unfold xorF
  rw [BitVec.toNat_xor, ofInt_nat, ofInt_nat]
  exact wrapB_eq k _ (by have h1 := imod_lt x k; have h2 := imod_lt y k; rw [two_nat] at *; exact Nat.xor_lt_two_pow h1 h2)
theorem andNotF_eq (k : IntKind) (x y : Int) : andNotF k x y = k.wrap ((BitVec.ofInt k.bits x &&& ~~~BitVec.ofInt k.bits y).toNat : Nat) := by
  unfold andNotF
  rw [BitVec.toNat_and, BitVec.toNat_not, ofInt_nat, ofInt_nat, ← two_nat]
  exact wrapB_eq k _ (Nat.lt_of_le_of_lt Nat.and_le_left (imod_lt x k))
theorem isub_eq (a b : Int) : isub a b = a - b := by
  cases a <;> cases b <;> first | rfl | (show Int.subNatNat _ _ = _; rw [Int.subNatNat_eq_coe]; rfl)
theorem forceI_eq (n : Int) : forceI n = .c n := by
  cases n with
  | ofNat n => cases n <;> rfl
  | negSucc n => cases n <;> rfl
variable (env : Nat → Int)
theorem mkWrap_den (e : IE) (k : IntKind) : (mkWrap e k).den env = k.wrap (e.den env) := by
  cases e <;> first
    | (show (forceI (wrapF k _)).den env = _; rw [forceI_eq, wrapF_eq]; rfl)
    | (show wrapF k _ = _; rw [wrapF_eq])
theorem mkBin_den (a b : IE) (o : IOp) (k : IntKind) : (mkBin a o k b).den env = o.den k (a.den env) (b.den env) := by
  cases a <;> first | rfl | skip
  cases b <;> first | rfl | (show (forceI (o.den k _ _)).den env = _; rw [forceI_eq]; rfl)
theorem mkLt_den (a b : IE) : (mkLt a b).den env = decide (a.den env < b.den env) := by
  cases a <;> cases b <;> first | (show iltb _ _ = _; rw [iltb_eq]; rfl) | (show iltb _ _ = _; rw [iltb_eq])
theorem mkLe_den (a b : IE) : (mkLe a b).den env = decide (a.den env ≤ b.den env) := by
  cases a <;> cases b <;> first | (show ileb _ _ = _; rw [ileb_eq]; rfl) | (show ileb _ _ = _; rw [ileb_eq])
theorem iopN_inj : ∀ o p : IOp, Nat.beq (iopN o) (iopN p) = true → o = p := by
  intro o p h
  cases o <;> cases p <;> first | rfl | cases h
theorem IE.beq_eq : ∀ a b : IE, IE.beq a b = true → a = b
  | .c x, b, h => by
    cases b <;> first | (cases h; done) | skip
    simp only [IE.beq, ieqb_eq] at h
    have := (beq_iff_eq (α := Int)).1 h
    rw [this]
  | .v i, b, h => by
    cases b <;> first | (cases h; done) | skip
    rw [Nat.eq_of_beq_eq_true h]
  | .wrap k a, b, h => by
    cases b <;> first | (cases h; done) | skip
    simp only [IE.beq, Bool.and_eq_true] at h
    rw [(keq_eq _ _).1 h.1, IE.beq_eq a _ h.2]
  | .bin o k a b, d, h => by
    cases d <;> first | (cases h; done) | skip
    simp only [IE.beq, Bool.and_eq_true] at h
    rw [iopN_inj _ _ h.1.1.1, (keq_eq _ _).1 h.1.1.2, IE.beq_eq a _ h.1.2, IE.beq_eq b _ h.2]
theorem mkEq_den (a b : IE) : (mkEq a b).den env = (a.den env == b.den env) := by
  have y : (eqY a b (IE.beq a b)).den env = (a.den env == b.den env) := by
    cases h : IE.beq a b with
    | true => rw [IE.beq_eq a b h]; show true = _; simp
    | false => show ieqb _ _ = _; rw [ieqb_eq]
  cases a with
  | c x => cases b <;> first | (show ieqb _ _ = _; rw [ieqb_eq]; rfl) | (show ieqb _ _ = _; rw [ieqb_eq])
  | _ => exact y
theorem mkNot_den (a : BE) : (mkNot a).den env = !a.den env := by
  cases a <;> first | rfl | (rename_i x; show x.den env = !(!(x.den env)); rw [Bool.not_not])
/-! ### decisions -/
section dec
variable {env : Nat → Int}
theorem BE.beq_eq : ∀ a b : BE, BE.beq a b = true → a = b
  | .c x, b, h => by
    cases b <;> first | (cases h; done) | skip
    simp only [BE.beq] at h
    have := (beq_iff_eq (α := Bool)).1 h
    rw [this]
  | .lt a b, d, h => by
    cases d <;> first | (cases h; done) | skip
    simp only [BE.beq, Bool.and_eq_true] at h
    rw [IE.beq_eq _ _ h.1, IE.beq_eq _ _ h.2]
  | .le a b, d, h => by
    cases d <;> first | (cases h; done) | skip
    simp only [BE.beq, Bool.and_eq_true] at h
    rw [IE.beq_eq _ _ h.1, IE.beq_eq _ _ h.2]
  | .eq a b, d, h => by
    cases d <;> first | (cases h; done) | skip
    simp only [BE.beq, Bool.and_eq_true] at h
    rw [IE.beq_eq _ _ h.1, IE.beq_eq _ _ h.2]
  | .not a, d, h => by
    cases d <;> first | (cases h; done) | skip
    rw [BE.beq_eq a _ h]
def PcOk (env : Nat → Int) (pc : List (BE × Bool)) : Prop := ∀ x ∈ pc, x.1.den env = x.2
theorem known_ok : ∀ {pc : List (BE × Bool)} (_ : PcOk env pc) {e : BE} {b : Bool}, known pc e = some b → e.den env = b
  | [], _, _, _, h => by cases h
  | (x, d) :: pc, hp, e, b, h => by
    simp only [known] at h
    cases hb : BE.beq x e with
    | true =>
      rw [hb] at h
      cases h
      rw [← BE.beq_eq x e hb]
      exact hp (x, d) List.mem_cons_self
    | false =>
      rw [hb] at h
      exact known_ok (fun y hy => hp y (List.mem_cons_of_mem _ hy)) h
theorem dec_ok {cx : Cx} (hp : PcOk env cx.pc) {e : BE} {b : Bool} (h : cx.dec e = some b) : e.den env = b := by
  have h : decE e cx.pc = some b := h
  cases e with
  | c x => cases h; rfl
  | not e =>
    simp only [decE] at h
    cases hk : known cx.pc e with
    | some c =>
      rw [hk] at h
      cases h
      show (!e.den env) = _
      rw [known_ok hp hk]
    | none => rw [hk] at h; exact known_ok hp h
  | _ => exact known_ok hp h
end dec

end Go.Vm
