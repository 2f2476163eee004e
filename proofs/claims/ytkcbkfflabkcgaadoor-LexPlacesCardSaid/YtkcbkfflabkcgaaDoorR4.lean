/-
  The walk of the references' Parse.
-/
import Derived.Test.YtkcbkfflabkcgaaDoorR3
import Derived.Test.YtkcbkfflabkcgaaDoorW8
namespace Go.Proofs.YtkcbkfflabkcgaaDoor
open Go.RowKit Ieee

/-- a text's minus, and what is behind it -/
def Head (s U : ByteArray) (neg : Bool) : Prop :=
  (neg = true ∧ ∃ h : 0 < s.size, (((s[0]'h).toNat : Int) == 45) = true ∧ s.extract 1 s.size = U) ∨
  (neg = false ∧ s = U ∧ ¬ 0 < s.size) ∨
  (neg = false ∧ s = U ∧ ∃ h : 0 < s.size, (((s[0]'h).toNat : Int) == 45) = false)

theorem head_of (l : List UInt8) : Head ⟨l.toArray⟩ ⟨(unNeg l).toArray⟩ (isNeg l) := by
  cases l with
  | nil => right; left; exact ⟨rfl, rfl, by show ¬ 0 < 0; omega⟩
  | cons c r =>
    by_cases h : c = 45
    · subst h
      left
      refine ⟨rfl, by show 0 < (45 :: r).toArray.size; simp, rfl, ?_⟩
      apply ByteArray.ext
      apply Array.toList_inj.1
      show _ = r
      simp only [ByteArray.data_extract, Array.toList_extract, List.extract_eq_take_drop, List.drop_succ_cons, List.drop_zero]
      exact List.take_of_length_le (by show _ ≤ (45 :: r).toArray.size - 1; simp)
    · right; right
      have hn : isNeg (c :: r) = false := by
        show (some c == some (45 : UInt8)) = false
        rw [show (some c == some (45 : UInt8)) = (c == 45) from rfl, beq_eq_false_iff_ne.2 h]
      refine ⟨hn, by unfold unNeg; rw [hn]; rfl, by show 0 < (c :: r).toArray.size; simp, ?_⟩
      show ((c.toNat : Int) == 45) = false
      rw [beq_eq_false_iff_ne]
      intro e
      apply h
      apply UInt8.toNat_inj.1
      show c.toNat = 45
      omega

end Go.Proofs.YtkcbkfflabkcgaaDoor
