/-
  Lg1 in one text.
-/
import Derived.Tactics
namespace Go.Proofs.YtkbcdlabfbonoaaGreatDoor
/-- how many of a list are found in another one, in order, from the k-th on -/
def foundIn {α : Type} (same : α → α → Bool) (d : α) (a : List α) : List α → Nat → Nat
  | [], k => k
  | v :: b, k => foundIn same d a b (if k < a.length ∧ same (a.getD k d) v = true then k + 1 else k)
theorem foundIn_part {α β : Type} {same : α → α → Bool} {d : α} {f : β → α} {p q : β → Bool} (hs : ∀ x, same (f x) (f x) = true) (hpq : ∀ x, p x = true → q x = true) (l1 : List β) : ∀ (l2 : List β) (k : Nat), (l1.filter p).length ≤ k → k ≤ ((l1 ++ l2).filter p).length →
    foundIn same d (((l1 ++ l2).filter p).map f) ((l2.filter q).map f) k = ((l1 ++ l2).filter p).length := by
  intro l2
  induction l2 generalizing l1 with
  | nil =>
    intro k h1 h2
    rw [List.append_nil] at h2 ⊢
    show k = _
    omega
  | cons x l2 ih =>
    intro k h1 h2
    have e : l1 ++ x :: l2 = (l1 ++ [x]) ++ l2 := by simp
    cases hq : q x with
    | false =>
      have hp : p x = false := by
        cases hp : p x with
        | false => rfl
        | true => rw [hpq x hp] at hq; cases hq
      rw [List.filter_cons_of_neg (by simp [hq]), e]
      refine ih (l1 ++ [x]) k ?_ (by rw [← e]; exact h2)
      rw [List.filter_append, List.filter_cons_of_neg (by simp [hp])]
      simpa using h1
    | true =>
      rw [List.filter_cons_of_pos hq, List.map_cons, foundIn, e]
      cases hp : p x with
      | false =>
        have hl : ((l1 ++ [x]).filter p).length = (l1.filter p).length := by rw [List.filter_append, List.filter_cons_of_neg (by simp [hp])]; simp
        refine ih (l1 ++ [x]) _ ?_ ?_
        · rw [hl]; split <;> omega
        · rw [e] at h2
          split
          · next h => have := h.1; rw [List.length_map] at this; omega
          · exact h2
      | true =>
        have hl : ((l1 ++ [x]).filter p).length = (l1.filter p).length + 1 := by rw [List.filter_append, List.filter_cons_of_pos hp]; simp
        have hll : ((l1 ++ [x]).filter p).length ≤ (((l1 ++ [x]) ++ l2).filter p).length := by rw [List.filter_append (l₁ := l1 ++ [x])]; simp
        rw [e] at h2
        refine ih (l1 ++ [x]) _ ?_ ?_
        · rw [hl]
          by_cases hk : k = (l1.filter p).length
          · rw [if_pos]
            · omega
            · refine ⟨by rw [List.length_map]; omega, ?_⟩
              have hget : (List.map f (((l1 ++ [x]) ++ l2).filter p)).getD k d = f x := by
                rw [List.filter_append (l₁ := l1 ++ [x]), List.filter_append, List.filter_cons_of_pos hp, List.filter_nil, List.append_assoc, List.map_append]
                rw [List.getD, List.getElem?_append_right (by rw [List.length_map]; omega), List.length_map, hk]
                simp
              rw [hget]; exact hs x
          · split <;> omega
        · split
          · next h => have := h.1; rw [List.length_map] at this; omega
          · exact h2
theorem foundIn_all {α β : Type} {same : α → α → Bool} {d : α} {f : β → α} {p q : β → Bool} (hs : ∀ x, same (f x) (f x) = true) (hpq : ∀ x, p x = true → q x = true) (l : List β) :
    foundIn same d ((l.filter p).map f) ((l.filter q).map f) 0 = ((l.filter p).map f).length := by
  rw [List.length_map]
  exact foundIn_part hs hpq [] l 0 (by simp) (by simp)
theorem foundIn_drop {α : Type} {same : α → α → Bool} {d : α} {a b : List α} {i k : Nat} (hi : i < b.length) : foundIn same d a (b.drop i) k = foundIn same d a (b.drop (i + 1)) (if k < a.length ∧ same (a.getD k d) (b.getD i d) = true then k + 1 else k) := by
  have e : b.getD i d = b[i] := by simp [List.getD, hi]
  rw [List.drop_eq_getElem_cons hi, foundIn, e]
end Go.Proofs.YtkbcdlabfbonoaaGreatDoor
