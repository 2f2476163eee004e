/-
  The walk of the references' number.
-/
import Derived.Test.YtkcbkfflabkcgaaDoorM2
namespace Go.Proofs.YtkcbkfflabkcgaaDoor
open Go.RowKit

theorem part_take {l : List UInt8} {a k e : Nat} (h : k ≤ e) : part l a k = (part l a e).take (k - a) := by
  unfold part
  rw [List.take_take, Nat.min_eq_left (by omega)]
theorem part_digs {l : List UInt8} {a k : Nat} (hk : k ≤ a + far isDig l a) : (part l a k).all isDig = true := by
  rw [part_take hk]
  have h := part_all isDig l a
  rw [List.all_eq_true] at h ⊢
  exact fun x hx => h x (List.mem_of_mem_take hx)
theorem far_dig {l : List UInt8} {a k : Nat} (hak : a ≤ k) (hk : k < a + far isDig l a) (ha : a ≤ l.length) : isDig (l.getD k 0) = true := by
  have hle := far_le isDig l ha
  have h := part_digs (l := l) (a := a) (k := k + 1) (by omega)
  rw [part_snoc hak (by omega), List.all_append, Bool.and_eq_true] at h
  simpa using h.2
theorem num_bound {l : List UInt8} {a k : Nat} (hk : k ≤ a + far isDig l a) (ha : a ≤ l.length) (h : k - a ≤ 18) : decVal (part l a k) ≤ 999999999999999999 := by
  have hle := far_le isDig l ha
  have h1 := decVal_lt _ (part_digs hk)
  rw [part_length (by omega)] at h1
  have h2 : 10 ^ (k - a) ≤ 10 ^ 18 := Nat.pow_le_pow_right (by decide) h
  have h3 : (10 : Nat) ^ 18 = 1000000000000000000 := by decide
  omega

end Go.Proofs.YtkcbkfflabkcgaaDoor
