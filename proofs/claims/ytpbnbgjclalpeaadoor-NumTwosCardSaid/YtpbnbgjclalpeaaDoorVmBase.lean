/- VM: what its tables and its rows come to: lemmas on trees and on rows told by their runs. -/
import Derived.Test.YtpbnbgjclalpeaaDoorVmDefs
set_option linter.unusedVariables false
set_option linter.unusedSimpArgs false
namespace Go.Vm
namespace Tr
variable {α : Type}
theorem get1_nil (n : Nat) : get1 (.nil : Tr α) n = none := rfl
theorem get1_node (l : Tr α) (v : Option α) (r : Tr α) (n : Nat) :
    get1 (.node l v r) n = if n = 1 then v else if n % 2 = 1 then get1 r (n / 2) else get1 l (n / 2) := by
  show (Bool.rec (Bool.rec (get1 l (Nat.div n 2)) (get1 r (Nat.div n 2)) (Nat.beq (Nat.mod n 2) 1)) v (Nat.beq n 1) : Option α) = _
  by_cases h : n = 1
  · rw [if_pos h]; subst h; rfl
  · have h1 : Nat.beq n 1 = false := by cases e : Nat.beq n 1; rfl; exact absurd (Nat.eq_of_beq_eq_true e) h
    rw [if_neg h, h1]
    by_cases h2 : n % 2 = 1
    · have : Nat.beq (Nat.mod n 2) 1 = true := by show Nat.beq (n % 2) 1 = true; rw [h2]; rfl
      rw [if_pos h2, this]; rfl
    · have : Nat.beq (Nat.mod n 2) 1 = false := by cases e : Nat.beq (Nat.mod n 2) 1; rfl; exact absurd (Nat.eq_of_beq_eq_true e) h2
      rw [if_neg h2, this]; rfl
theorem path_succ (a : α) (f n : Nat) : path a (f + 1) n = if n = 1 then .node .nil (some a) .nil else if n % 2 = 1 then .node .nil none (path a f (n / 2)) else .node (path a f (n / 2)) none .nil := by
  show (Bool.rec (Bool.rec (.node (path a f (Nat.div n 2)) none .nil) (.node .nil none (path a f (Nat.div n 2))) (Nat.beq (Nat.mod n 2) 1)) (.node .nil (some a) .nil) (Nat.beq n 1) : Tr α) = _
  by_cases h : n = 1
  · rw [if_pos h]; subst h; rfl
  · have h1 : Nat.beq n 1 = false := by cases e : Nat.beq n 1; rfl; exact absurd (Nat.eq_of_beq_eq_true e) h
    rw [if_neg h, h1]
    by_cases h2 : n % 2 = 1
    · have : Nat.beq (Nat.mod n 2) 1 = true := by show Nat.beq (n % 2) 1 = true; rw [h2]; rfl
      rw [if_pos h2, this]; rfl
    · have : Nat.beq (Nat.mod n 2) 1 = false := by cases e : Nat.beq (Nat.mod n 2) 1; rfl; exact absurd (Nat.eq_of_beq_eq_true e) h2
      rw [if_neg h2, this]; rfl
theorem set1_nil (a : α) (n : Nat) : set1 a .nil n = path a n n := rfl
theorem set1_node (a : α) (l : Tr α) (v : Option α) (r : Tr α) (n : Nat) :
    set1 a (.node l v r) n = if n = 1 then .node l (some a) r else if n % 2 = 1 then .node l v (set1 a r (n / 2)) else .node (set1 a l (n / 2)) v r := by
  show (Bool.rec (Bool.rec (.node (set1 a l (Nat.div n 2)) v r) (.node l v (set1 a r (Nat.div n 2))) (Nat.beq (Nat.mod n 2) 1)) (.node l (some a) r) (Nat.beq n 1) : Tr α) = _
  by_cases h : n = 1
  · rw [if_pos h]; subst h; rfl
  · have h1 : Nat.beq n 1 = false := by cases e : Nat.beq n 1; rfl; exact absurd (Nat.eq_of_beq_eq_true e) h
    rw [if_neg h, h1]
    by_cases h2 : n % 2 = 1
    · have : Nat.beq (Nat.mod n 2) 1 = true := by show Nat.beq (n % 2) 1 = true; rw [h2]; rfl
      rw [if_pos h2, this]; rfl
    · have : Nat.beq (Nat.mod n 2) 1 = false := by cases e : Nat.beq (Nat.mod n 2) 1; rfl; exact absurd (Nat.eq_of_beq_eq_true e) h2
      rw [if_neg h2, this]; rfl
theorem get1_path (a : α) : ∀ (f n m : Nat), 1 ≤ n → n ≤ f → 1 ≤ m → get1 (path a f n) m = if m = n then some a else none := by
  intro f
  induction f with
  | zero => intro n m h1 h2 _; omega
  | succ f ih =>
    intro n m h1 h2 h3
    rw [path_succ]
    by_cases hn : n = 1
    · subst hn
      rw [if_pos rfl, get1_node]
      by_cases hm : m = 1
      · simp [hm]
      · rw [if_neg hm, if_neg hm]; split <;> rfl
    · rw [if_neg hn]
      by_cases hp : n % 2 = 1
      · rw [if_pos hp, get1_node]
        by_cases hm : m = 1
        · rw [if_pos hm, if_neg (by omega)]
        · rw [if_neg hm]
          by_cases hq : m % 2 = 1
          · rw [if_pos hq, ih _ _ (by omega) (by omega) (by omega)]
            by_cases e : m = n
            · rw [if_pos e, if_pos (by rw [e])]
            · rw [if_neg e, if_neg (by omega)]
          · rw [if_neg hq, if_neg (by intro e; subst e; exact hq hp)]; rfl
      · rw [if_neg hp, get1_node]
        by_cases hm : m = 1
        · rw [if_pos hm, if_neg (by omega)]
        · rw [if_neg hm]
          by_cases hq : m % 2 = 1
          · rw [if_pos hq, if_neg (by intro e; subst e; exact hp hq)]; rfl
          · rw [if_neg hq, ih _ _ (by omega) (by omega) (by omega)]
            by_cases e : m = n
            · rw [if_pos e, if_pos (by rw [e])]
            · rw [if_neg e, if_neg (by omega)]
theorem get1_set1 (a : α) (t : Tr α) : ∀ (n m : Nat), 1 ≤ n → 1 ≤ m → get1 (set1 a t n) m = if m = n then some a else get1 t m := by
  induction t with
  | nil => intro n m h1 h2; rw [set1_nil, get1_path a n n m h1 (Nat.le_refl _) h2]; rfl
  | node l v r ihl ihr =>
    intro n m h1 h2
    rw [set1_node]
    by_cases hn : n = 1
    · subst hn
      rw [if_pos rfl, get1_node, get1_node]
      by_cases hm : m = 1
      · simp [hm]
      · rw [if_neg hm, if_neg hm, if_neg hm]
    · rw [if_neg hn]
      by_cases hp : n % 2 = 1
      · rw [if_pos hp, get1_node, get1_node]
        by_cases hm : m = 1
        · rw [if_pos hm, if_pos hm, if_neg (by omega)]
        · rw [if_neg hm, if_neg hm]
          by_cases hq : m % 2 = 1
          · rw [if_pos hq, if_pos hq, ihr _ _ (by omega) (by omega)]
            by_cases e : m = n
            · rw [if_pos e, if_pos (by rw [e])]
            · rw [if_neg e, if_neg (by omega)]
          · rw [if_neg hq, if_neg hq, if_neg (by intro e; subst e; exact hq hp)]
      · rw [if_neg hp, get1_node, get1_node]
        by_cases hm : m = 1
        · rw [if_pos hm, if_pos hm, if_neg (by omega)]
        · rw [if_neg hm, if_neg hm]
          by_cases hq : m % 2 = 1
          · rw [if_pos hq, if_pos hq, if_neg (by intro e; subst e; exact hp hq)]
          · rw [if_neg hq, if_neg hq, ihl _ _ (by omega) (by omega)]
            by_cases e : m = n
            · rw [if_pos e, if_pos (by rw [e])]
            · rw [if_neg e, if_neg (by omega)]
theorem get_set (t : Tr α) (n m : Nat) (a : α) : (t.set n a).get m = if m = n then some a else t.get m := by
  show get1 (set1 a t (n + 1)) (m + 1) = _
  rw [get1_set1 a t _ _ (by omega) (by omega)]
  by_cases e : m = n
  · rw [if_pos e, if_pos (by omega)]
  · rw [if_neg e, if_neg (by omega)]; rfl
theorem get_nil (n : Nat) : (Tr.nil : Tr α).get n = none := rfl
end Tr

namespace RL
variable {α : Type}
theorem beq_dec (m n : Nat) : Nat.beq m n = decide (m = n) := by
  cases e : Nat.beq m n
  · rw [decide_eq_false]; intro h; subst h; simp at e
  · rw [decide_eq_true]; exact Nat.eq_of_beq_eq_true e
theorem ble_dec (m n : Nat) : Nat.ble m n = decide (m ≤ n) := by
  cases e : Nat.ble m n
  · rw [decide_eq_false]; intro h; rw [Nat.ble_eq_true_of_le h] at e; cases e
  · rw [decide_eq_true]; exact Nat.le_of_ble_eq_true e
theorem recB {β : Type} (c : Bool) (x y : β) : (Bool.rec x y c : β) = if c = true then y else x := by cases c <;> rfl
theorem toList_nil : toList ([] : RL α) = [] := rfl
theorem reps_eq (n : Nat) (a : α) (r : List α) : reps n a r = List.replicate n a ++ r := by
  induction n with
  | zero => rfl
  | succ n ih => show a :: reps n a r = _; rw [ih]; rfl
theorem toList_cons (x : α × Nat) (r : RL α) : toList (x :: r) = List.replicate x.2 x.1 ++ toList r := reps_eq _ _ _
theorem len_eq (r : RL α) : r.len = r.toList.length := by
  induction r with
  | nil => rfl
  | cons x r ih => rw [toList_cons, List.length_append, List.length_replicate, ← ih]; rfl
theorem get_eq (r : RL α) : ∀ i, r.get i = r.toList[i]? := by
  induction r with
  | nil => intro i; rfl
  | cons x r ih =>
    intro i
    show (Bool.rec (get r (Nat.sub i x.2)) (some x.1) (Nat.ble (Nat.succ i) x.2) : Option α) = _
    rw [recB, ble_dec, toList_cons]
    by_cases h : i < x.2
    · rw [if_pos (by simp; omega), List.getElem?_append_left (by simpa using h)]
      simp [h]
    · rw [if_neg (by simp; omega), List.getElem?_append_right (by simpa using h), ih]
      simp
theorem toList_put (n : Nat) (a : α) (r : RL α) : toList (put n a r) = List.replicate n a ++ toList r := by
  show toList (Bool.rec ((a, n) :: r) r (Nat.beq n 0)) = _
  rw [recB, beq_dec]
  by_cases h : n = 0
  · subst h; simp
  · rw [if_neg (by simpa using h), toList_cons]
theorem toList_set (r : RL α) : ∀ i x, (r.set i x).toList = r.toList.set i x := by
  induction r with
  | nil => intro i x; rfl
  | cons y r ih =>
    intro i x
    show toList (Bool.rec (y :: set r (Nat.sub i y.2) x) (put i y.1 ((x, 1) :: put (Nat.sub (Nat.sub y.2 i) 1) y.1 r)) (Nat.ble (Nat.succ i) y.2)) = _
    rw [recB, ble_dec]
    by_cases h : i < y.2
    · rw [if_pos (by simp; omega), toList_put, toList_cons, toList_put, toList_cons]
      rw [List.set_append_left _ _ (by simpa using h)]
      have e : (List.replicate y.2 y.1).set i x = List.replicate i y.1 ++ (x :: List.replicate (y.2 - i - 1) y.1) := by
        apply List.ext_getElem?
        intro j
        rw [List.getElem?_set, List.length_replicate]
        by_cases hj : i = j
        · subst hj
          simp [h]
        · rw [if_neg hj]
          by_cases h2 : j < i
          · rw [List.getElem?_append_left (by simpa using h2)]; simp [List.getElem?_replicate, h2]; omega
          · rw [List.getElem?_append_right (by simp; omega)]
            obtain ⟨d, hd⟩ : ∃ d, j = i + (d + 1) := ⟨j - i - 1, by omega⟩
            subst hd
            simp only [List.length_replicate, Nat.add_sub_cancel_left, List.getElem?_cons_succ, List.getElem?_replicate]
            by_cases h3 : i + (d + 1) < y.2
            · rw [if_pos h3, if_pos (by omega)]
            · rw [if_neg h3, if_neg (by omega)]
      rw [e]
      simp
    · rw [if_neg (by simp; omega), toList_cons, toList_cons, ih, List.set_append_right _ _ (by simpa using h)]
      simp
theorem toList_drop (r : RL α) : ∀ k, (r.drop k).toList = r.toList.drop k := by
  induction r with
  | nil => intro k; simp [drop, toList]
  | cons y r ih =>
    intro k
    show toList (Bool.rec (drop r (Nat.sub k y.2)) ((y.1, Nat.sub y.2 k) :: r) (Nat.ble (Nat.succ k) y.2)) = _
    rw [recB, ble_dec, toList_cons]
    by_cases h : k < y.2
    · rw [if_pos (by simp; omega), toList_cons, List.drop_append_of_le_length (by simp; omega)]
      simp
    · rw [if_neg (by simp; omega), ih, List.drop_append]
      simp
      omega
theorem toList_take (r : RL α) : ∀ k, (r.take k).toList = r.toList.take k := by
  induction r with
  | nil => intro k; simp [take, toList]
  | cons y r ih =>
    intro k
    show toList (Bool.rec (y :: take r (Nat.sub k y.2)) (put k y.1 []) (Nat.ble (Nat.succ k) y.2)) = _
    rw [recB, ble_dec, toList_cons]
    by_cases h : k < y.2
    · rw [if_pos (by simp; omega), toList_put, List.take_append_of_le_length (by simp; omega)]
      simp [toList_nil, List.take_replicate]
      omega
    · rw [if_neg (by simp; omega), toList_cons, ih, List.take_append]
      simp [List.take_replicate]
      omega
theorem toList_ofList (l : List α) : (ofList l).toList = l := by
  induction l with
  | nil => rfl
  | cons a l ih => show toList ((a, 1) :: ofList l) = _; rw [toList_cons, ih]; rfl
theorem toList_app (a b : RL α) : (app a b).toList = a.toList ++ b.toList := by
  induction a with
  | nil => rfl
  | cons x a ih => show toList (x :: app a b) = _; rw [toList_cons, toList_cons, ih, List.append_assoc]
theorem app1_eq (a b : List α) : app1 a b = a ++ b := by
  induction a with
  | nil => rfl
  | cons x a ih => show x :: app1 a b = _; rw [ih]; rfl
theorem toList_rep (n : Nat) (l : List α) : (rep n l).toList = (List.replicate n l).flatten := by
  have big : ∀ n, toList (Nat.rec [] (fun _ acc => app (ofList l) acc) n : RL α) = (List.replicate n l).flatten := by
    intro n
    induction n with
    | zero => rfl
    | succ n ih =>
      show toList (app (ofList l) (Nat.rec [] (fun _ acc => app (ofList l) acc) n)) = _
      rw [toList_app, ih, toList_ofList, List.replicate_succ, List.flatten_cons]
  unfold rep
  split
  · rename_i a
    rw [toList_put, toList_nil, List.append_nil]
    induction n with
    | zero => rfl
    | succ n ih => rw [List.replicate_succ, List.replicate_succ, List.flatten_cons, ← ih]; rfl
  · exact big n
end RL
theorem setRL_toList (nw cs : RL V) (lo : Nat) : (setRL nw cs lo).toList = cs.toList.take lo ++ (nw.toList ++ cs.toList.drop (lo + nw.toList.length)) := by
  show (RL.app (cs.take lo) (RL.app nw (cs.drop (lo + nw.len)))).toList = _
  rw [RL.toList_app, RL.toList_app, RL.toList_take, RL.toList_drop, RL.len_eq]
end Go.Vm
