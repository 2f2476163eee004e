/-
  La1 in one text.
-/
import Derived.Tactics
namespace Go.Proofs.YtkbcdlabfbonoaaGreatDoor
abbrev Rel := Nat → Nat → Bool
/-- closed by way of labels below t -/
def War (R : Rel) : Nat → Rel
  | 0 => R
  | t + 1 => fun x y => War R t x y || (War R t x t && War R t t y)
theorem War.mono (R : Rel) (t : Nat) {x y : Nat} (h : War R t x y = true) : War R (t + 1) x y = true := by
  show (War R t x y || _) = true
  rw [h]; rfl
theorem War.le (R : Rel) {t u : Nat} (h : t ≤ u) {x y : Nat} (k : War R t x y = true) : War R u x y = true := by
  induction h with
  | refl => exact k
  | step _ ih => exact War.mono R _ ih
theorem War.refl {R : Rel} {x : Nat} (hr : R x x = true) (t : Nat) : War R t x x = true := War.le R (Nat.zero_le t) hr
theorem War.out {R : Rel} {n : Nat} (h : ∀ x y, n ≤ x → R x y = false) : ∀ (t x y : Nat), n ≤ x → War R t x y = false
  | 0, x, y, hx => h x y hx
  | t + 1, x, y, hx => by
    show (War R t x y || (War R t x t && War R t t y)) = false
    rw [War.out h t x y hx, War.out h t x t hx]; rfl
theorem War.far {R : Rel} {n : Nat} (h : ∀ x y, n ≤ y → R x y = false) : ∀ (t x y : Nat), n ≤ y → War R t x y = false
  | 0, x, y, hx => h x y hx
  | t + 1, x, y, hx => by
    show (War R t x y || (War R t x t && War R t t y)) = false
    rw [War.far h t x y hx, War.far h t t y hx]; simp
theorem War.by {R : Rel} {t x y : Nat} (h : War R (t + 1) x y = true) : War R t x y = true ∨ (War R t x t = true ∧ War R t t y = true) := by
  have h : (War R t x y || (War R t x t && War R t t y)) = true := h
  simpa using h
theorem War.trans {R : Rel} : ∀ (t : Nat) {j : Nat}, j < t → ∀ {x y : Nat}, War R t x j = true → War R t j y = true → War R t x y = true
  | 0, _, h, _, _, _, _ => by omega
  | t + 1, j, h, x, y, h1, h2 => by
    by_cases e : j = t
    · subst e
      have a1 : War R j x j = true := by
        rcases War.by h1 with h | h
        · exact h
        · exact h.1
      have a2 : War R j j y = true := by
        rcases War.by h2 with h | h
        · exact h
        · exact h.2
      show (War R j x y || (War R j x j && War R j j y)) = true
      rw [a1, a2]; simp
    · have hj : j < t := by omega
      show (War R t x y || (War R t x t && War R t t y)) = true
      rcases War.by h1 with p | ⟨p, p'⟩ <;> rcases War.by h2 with q | ⟨q, q'⟩
      · rw [War.trans t hj p q]; rfl
      · rw [War.trans t hj p q, q']; simp
      · rw [p, War.trans t hj p' q]; simp
      · rw [p, q']; simp
/-- a row is joined with row k, where it has k -/
def rowW (k : Nat) (le : Rel) (a : Nat) : Rel := fun x y => if x = a ∧ le a k = true then le x y || le k y else le x y
theorem rowW_at {R : Rel} {k : Nat} (hr : R k k = true) {a : Nat} {le : Rel} (h : ∀ x y, le x y = if x < a then War R (k + 1) x y else War R k x y) : ∀ x y, rowW k le a x y = if x < a + 1 then War R (k + 1) x y else War R k x y := by
  intro x y
  have hrow : ∀ y, le k y = War R k k y := fun y => by
    rw [h]
    split
    · show (War R k k y || (War R k k k && War R k k y)) = _
      rw [War.refl hr]; simp
    · rfl
  have hak : le a k = War R k a k := by rw [h, if_neg (by omega)]
  unfold rowW
  by_cases hx : x = a
  · subst hx
    rw [if_pos (by omega : x < x + 1), hak, hrow, show le x y = War R k x y by rw [h, if_neg (by omega)]]
    show _ = (War R k x y || (War R k x k && War R k k y))
    cases War R k x k <;> simp
  · rw [if_neg (fun e => hx e.1), h]
    by_cases hl : x < a
    · rw [if_pos hl, if_pos (by omega)]
    · rw [if_neg hl, if_neg (by omega)]
/-- one pass of the document's -/
def triW (le : Rel) (a b c : Nat) : Rel := fun x y => if x = a ∧ y = c ∧ le a b = true ∧ le b c = true then true else le x y
theorem triW_mono {le : Rel} {a b c x y : Nat} (h : le x y = true) : triW le a b c x y = true := by
  unfold triW; split
  · rfl
  · exact h
theorem triW_sub {R : Rel} {n : Nat} {le : Rel} {a b c : Nat} (hb : b < n) (h : ∀ x y, le x y = true → War R n x y = true) : ∀ x y, triW le a b c x y = true → War R n x y = true := by
  intro x y hx
  unfold triW at hx
  split at hx
  · next hc =>
    obtain ⟨rfl, rfl, h1, h2⟩ := hc
    exact War.trans n hb (h _ _ h1) (h _ _ h2)
  · exact h x y hx
/-- the labels above both, and below all such -/
def joinOk (n : Nat) (le : Rel) (a b c : Nat) : Bool := le a c && le b c && (List.range n).all fun d => !(le a d && le b d) || le c d
def hasJ (n : Nat) (le : Rel) (a b : Nat) : Bool := (List.range n).any (joinOk n le a b)
def flip (le : Rel) : Rel := fun x y => le y x
def pairOk (n : Nat) (le : Rel) (a b : Nat) : Bool := !(!(Nat.beq a b) && le a b && le b a) && hasJ n le a b && hasJ n (flip le) a b
def latOk (n : Nat) (le : Rel) : Bool := (List.range n).all fun a => (List.range n).all fun b => pairOk n le a b
end Go.Proofs.YtkbcdlabfbonoaaGreatDoor
