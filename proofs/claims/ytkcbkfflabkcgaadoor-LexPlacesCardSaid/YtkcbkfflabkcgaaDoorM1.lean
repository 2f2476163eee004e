/-
  The walks of the references' predicates on bytes and of their 'run'.
-/
import Derived.Test.YtkcbkfflabkcgaaDoorK1
namespace Go.Proofs.YtkcbkfflabkcgaaDoor
open Go.RowKit

theorem part_snoc {l : List UInt8} {a k : Nat} (h : a ≤ k) (hk : k < l.length) : part l a (k + 1) = part l a k ++ [l.getD k 0] := by
  unfold part
  have e : l.getD k 0 = l[k] := by simp [List.getD, hk]
  rw [show k + 1 - a = (k - a) + 1 by omega, List.take_succ_eq_append_getElem (by rw [List.length_drop]; omega), e]
  congr 2
  rw [List.getElem_drop]
  congr 1
  omega
theorem part_self (l : List UInt8) (a : Nat) : part l a a = [] := by unfold part; rw [Nat.sub_self]; rfl

end Go.Proofs.YtkcbkfflabkcgaaDoor
