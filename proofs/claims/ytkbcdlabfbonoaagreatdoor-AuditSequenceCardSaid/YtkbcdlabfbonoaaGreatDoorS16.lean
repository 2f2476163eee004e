/-
  La5 in one text.
-/
import Derived.Below
import Derived.Deep.Cut
import Derived.Deep.QuietTactic
import Derived.IntWalk
import Derived.KernelRfl
import Derived.Lib.Builder
import Derived.Lib.Hide
import Derived.LoopTactic
import Derived.OneCell
import Derived.OwnWalk
import Derived.ProofKit
import Derived.RegionTactic
import Derived.Tactics
import Derived.Test.YtkbcdlabfbonoaaGreatDoorChecked
import Derived.Test.YtkbcdlabfbonoaaGreatDoorS01
import Derived.Test.YtkbcdlabfbonoaaGreatDoorS12
import Derived.Test.YtkbcdlabfbonoaaGreatDoorS13
import Derived.Test.YtkbcdlabfbonoaaGreatDoorS14
namespace Go.Proofs.YtkbcdlabfbonoaaGreatDoor
open Go.RowKit
section
variable {b n : Nat} {U D : Nat → Nat → Bool} {w : World}
theorem LatAt.cellN (h : LatAt b n U D w) : w.cell? ⟨b, 0, none⟩ = some (.int .i64 (n : Int)) := by
  obtain ⟨cs, h0, _, _, h1, _⟩ := h
  rw [Lib.cell_of_heap h0]; exact h1
theorem LatAt.cellU (h : LatAt b n U D w) {a : Nat} (ha : a < 8) : w.cell? ⟨b, 1 + a, none⟩ = some (.int .u8 ((bits (U a) : Nat) : Int)) := by
  obtain ⟨cs, h0, _, _, _, h1, _⟩ := h
  rw [Lib.cell_of_heap h0]; exact h1 a ha
theorem LatAt.cellD (h : LatAt b n U D w) {a : Nat} (ha : a < 8) : w.cell? ⟨b, 9 + a, none⟩ = some (.int .u8 ((bits (D a) : Nat) : Int)) := by
  obtain ⟨cs, h0, _, _, _, _, h1, _⟩ := h
  rw [Lib.cell_of_heap h0]; exact h1 a ha
theorem LatAt.cellJ (h : LatAt b n U D w) {j : Nat} (h1 : 17 ≤ j) (h2 : j < 145) : ∃ k : Int, w.cell? ⟨b, j, none⟩ = some (.int .i8 k) := by
  obtain ⟨cs, h0, _, _, _, _, _, h3⟩ := h
  obtain ⟨k, hk⟩ := h3 j h1 h2
  exact ⟨k, by rw [Lib.cell_of_heap h0]; exact hk⟩
theorem LatAt.free (h : LatAt b n U D w) (j : Nat) : w.frozen? ⟨b, j, none⟩ = false := by
  obtain ⟨cs, h0, _⟩ := h
  exact Lib.frozen_of_heap h0 j
theorem LatAt.le8 (h : LatAt b n U D w) : n ≤ 8 := by obtain ⟨_, _, _, h, _⟩ := h; exact h
theorem LatAt.lt (h : LatAt b n U D w) : b < w.heap.size := by obtain ⟨_, h, _⟩ := h; exact lt_of_block h
theorem LatAt.of {w' : World} (h : LatAt b n U D w) (k : w'.heap[b]? = w.heap[b]?) : LatAt b n U D w' := by
  obtain ⟨cs, h0, hr⟩ := h
  exact ⟨cs, k.trans h0, hr⟩
theorem LatAt.drew (h : LatAt b n U D w) : LatAt b n U D w.drew := h.of rfl
theorem LatAt.kept {w' : World} {l : List Nat} (h : LatAt b n U D w) (k : Fr l w w') (hb : b ∉ l) : LatAt b n U D w' := h.of (k.block _ h.lt hb)
theorem LatAt.put (h : LatAt b n U D w) {j : Nat} {v : Value} {U' D' : Nat → Nat → Bool} (hj : j ≠ 0)
    (h1 : ∀ a, a < 8 → if j = 1 + a then v = .int .u8 ((bits (U' a) : Nat) : Int) else bits (U' a) = bits (U a))
    (h2 : ∀ a, a < 8 → if j = 9 + a then v = .int .u8 ((bits (D' a) : Nat) : Int) else bits (D' a) = bits (D a))
    (h3 : 17 ≤ j → ∃ k : Int, v = .int .i8 k) : LatAt b n U' D' (w.setCell ⟨b, j, none⟩ v) := by
  obtain ⟨cs, k0, k1, k2, k3, k4, k5, k6⟩ := h
  refine ⟨cs.setIfInBounds j v, heap_setN k0 j v, by simpa using k1, k2, ?_, fun a ha => ?_, fun a ha => ?_, fun i h4 h5 => ?_⟩
  · rw [Array.getElem?_setIfInBounds_ne hj]; exact k3
  · have := h1 a ha
    by_cases e : j = 1 + a
    · rw [if_pos e] at this
      subst e
      rw [this, Array.getElem?_setIfInBounds_self_of_lt (by omega)]
    · rw [if_neg e] at this
      rw [Array.getElem?_setIfInBounds_ne e, this]; exact k4 a ha
  · have := h2 a ha
    by_cases e : j = 9 + a
    · rw [if_pos e] at this
      subst e
      rw [this, Array.getElem?_setIfInBounds_self_of_lt (by omega)]
    · rw [if_neg e] at this
      rw [Array.getElem?_setIfInBounds_ne e, this]; exact k5 a ha
  · by_cases e : j = i
    · subst e
      obtain ⟨k, hk⟩ := h3 h4
      exact ⟨k, by rw [Array.getElem?_setIfInBounds_self_of_lt (by omega), hk]⟩
    · rw [Array.getElem?_setIfInBounds_ne e]; exact k6 i h4 h5
theorem LatAt.setU (h : LatAt b n U D w) {a : Nat} (ha : a < 8) {U' : Nat → Nat → Bool} (hU : ∀ x y, x ≠ a → U' x y = U x y) : LatAt b n U' D (w.setCell ⟨b, 1 + a, none⟩ (.int .u8 ((bits (U' a) : Nat) : Int))) := by
  refine h.put (by omega) (fun x hx => ?_) (fun x hx => ?_) (fun h => by omega)
  · by_cases e : 1 + a = 1 + x
    · rw [if_pos e, show x = a by omega]
    · rw [if_neg e]; exact bits_ext fun y _ => hU x y (by omega)
  · rw [if_neg (by omega)]
theorem LatAt.setD (h : LatAt b n U D w) {a : Nat} (ha : a < 8) {D' : Nat → Nat → Bool} (hD : ∀ x y, x ≠ a → D' x y = D x y) : LatAt b n U D' (w.setCell ⟨b, 9 + a, none⟩ (.int .u8 ((bits (D' a) : Nat) : Int))) := by
  refine h.put (by omega) (fun x hx => ?_) (fun x hx => ?_) (fun h => by omega)
  · rw [if_neg (by omega)]
  · by_cases e : 9 + a = 9 + x
    · rw [if_pos e, show x = a by omega]
    · rw [if_neg e]; exact bits_ext fun y _ => hD x y (by omega)
theorem LatAt.setJ (h : LatAt b n U D w) {j : Nat} (h1 : 17 ≤ j) (k : Int) : LatAt b n U D (w.setCell ⟨b, j, none⟩ (.int .i8 k)) :=
  h.put (by omega) (fun x hx => by rw [if_neg (by omega)]) (fun x hx => by rw [if_neg (by omega)]) (fun _ => ⟨k, rfl⟩)
end
/-- rows while they are closed -/
def WarB (R : Rel) (k a : Nat) : Rel := fun x y => if x < a then War R (k + 1) x y else War R k x y
theorem WarB.step {R : Rel} {k : Nat} (hr : R k k = true) (a : Nat) : rowW k (WarB R k a) a = WarB R k (a + 1) := by
  funext x y
  exact rowW_at hr (fun _ _ => rfl) x y
theorem WarB.zero (R : Rel) (k : Nat) : WarB R k 0 = War R k := by funext x y; unfold WarB; rw [if_neg (by omega)]
theorem WarB.all {R : Rel} {n : Nat} (h : ∀ x y, n ≤ x → R x y = false) (k : Nat) : WarB R k n = War R (k + 1) := by
  funext x y
  unfold WarB
  by_cases hx : x < n
  · rw [if_pos hx]
  · rw [if_neg hx, War.out h _ _ _ (by omega), War.out h _ _ _ (by omega)]
/-- the rows below while they are laid -/
def DownB (le : Rel) (a c : Nat) : Rel := fun x y => le y x && (decide (y < a) || (decide (y = a) && decide (x < c)))
theorem DownB.zero (le : Rel) : DownB le 0 0 = fun _ _ => false := by funext x y; unfold DownB; simp
theorem DownB.all {le : Rel} {n : Nat} (h : ∀ x y, n ≤ y → le x y = false) (a : Nat) : DownB le a n = DownB le (a + 1) 0 := by
  funext x y
  unfold DownB
  by_cases hx : x < n
  · rw [Bool.eq_iff_iff]; simp [hx]; intro _; omega
  · rw [h y x (by omega)]; rfl
theorem DownB.done {le : Rel} {n : Nat} (h : ∀ x y, n ≤ x → le x y = false) : DownB le n 0 = flip le := by
  funext x y
  unfold DownB flip
  by_cases hy : y < n
  · simp [hy]
  · rw [h y x (by omega)]; rfl
theorem DownB.step (le : Rel) (a c : Nat) : (fun x y => if x = c then (DownB le a c c y || (Nat.beq y a && le a c)) else DownB le a c x y) = DownB le a (c + 1) := by
  funext x y
  unfold DownB
  by_cases hx : x = c
  · subst hx
    rw [if_pos rfl]
    by_cases hy : y = a
    · subst hy; simp
    · have : Nat.beq y a = false := by cases h : Nat.beq y a with | false => rfl | true => exact absurd (Nat.eq_of_beq_eq_true h) hy
      rw [this]; simp [hy]
  · rw [if_neg hx]
    have : decide (x < c) = decide (x < c + 1) := by simp; omega
    rw [this]
end Go.Proofs.YtkbcdlabfbonoaaGreatDoor
