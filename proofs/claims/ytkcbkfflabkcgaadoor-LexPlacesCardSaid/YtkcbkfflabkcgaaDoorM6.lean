/-
  The walk of the references' sign.
-/
import Derived.Test.YtkcbkfflabkcgaaDoorM5
import Derived.Lib.MinMax
namespace Go.Proofs.YtkcbkfflabkcgaaDoor
open Go.RowKit

theorem part_min {l : List UInt8} {a n : Nat} : part l a (min (a + n) l.length) = part l a (a + n) := by
  unfold part
  rcases Nat.le_total (a + n) l.length with h | h
  · rw [Nat.min_eq_left h]
  · rw [Nat.min_eq_right h]
    have h1 : (l.drop a).length = l.length - a := List.length_drop
    rw [List.take_of_length_le (by omega), List.take_of_length_le (by omega)]

end Go.Proofs.YtkcbkfflabkcgaaDoor
