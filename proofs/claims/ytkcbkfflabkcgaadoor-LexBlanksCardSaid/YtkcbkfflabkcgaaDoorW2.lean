/-
  Walks of the program's float arithmetic, its order, and the small functions of package math: what each returns, as a plain function of the bits.
-/
import Derived.Test.YtkcbkfflabkcgaaDoorW1
import Derived.Test.YtkcbkfflabkcgaaDoorFa
namespace Go.Proofs.YtkcbkfflabkcgaaDoor
open Go.RowKit

/-- the NaN that Go picks where an operation has no answer -/
def nanPick (w : World) (a b : Nat) : Nat := (Question.nanBits .f64 a b).cut (w.tape w.drawn (.nanBits .f64 a b))
theorem nanPick_nan (w : World) (a b : Nat) : canon (nanPick w a b) = cnan := by
  have h : Fl.isNaN (nanPick w a b) = true := by
    unfold nanPick Question.cut Fl.isNaN Fl.rg
    simp only [decide_eq_true_eq, Nat.reducePow, Nat.reduceSub]
    generalize w.tape w.drawn (.nanBits .f64 a b) = t
    have h1 : t / 2 % 4503599627370495 < 4503599627370495 := Nat.mod_lt _ (by omega)
    have h2 : t % 2 < 2 := Nat.mod_lt _ (by omega)
    generalize t / 2 % 4503599627370495 = y at *
    generalize t % 2 = x at *
    omega
  unfold canon; rw [h]; rfl
theorem run_float_none {P : Program} (w : World) (op : BinOp) (t : TypeId) (x y : Nat) (hop : op = .add ∨ op = .sub ∨ op = .mul ∨ op = .quo) (h : floatBits op .f64 x y = none) :
    (binOp op t (.float .f64 x) (.float .f64 y)).run P w = .ok (.float .f64 (nanPick w x y)) w.drew := by
  unfold floatBits at h
  rcases hop with rfl | rfl | rfl | rfl <;> simp only at h <;> simp [binOp, Op.floatArith, h, nanPick, Question.forced]

def ordO (r1a r1b r2a r2b : Int) (o : Option Ordering) : Int :=
  if r1a ≠ r1b then r1a - r1b else if r1a = 1 then 0
  else if (o == some .lt) || ((o == some .eq) && decide (r2a < r2b)) then -1
  else if (o == some .gt) || ((o == some .eq) && decide (r2b < r2a)) then 1 else 0
theorem ordB_O (a b : Nat) : ordB a b = ordO (rank1 a) (rank1 b) (rank2 a) (rank2 b) (FloatKind.f64.format.order a b) := by
  rw [← ordF_eq]; unfold ordF ordO
  have h3 : Fl.feq a b = (FloatKind.f64.format.order a b == some .eq) := (ord_eq a b).symm
  rw [ord_lt, ord_gt, ← h3]
theorem rank1_or (b : Nat) : rank1 b = 0 ∨ rank1 b = 1 := by unfold rank1; split <;> simp
theorem rank2_or (b : Nat) : rank2 b = 0 ∨ rank2 b = -1 := by unfold rank2; split <;> (try split) <;> simp

end Go.Proofs.YtkcbkfflabkcgaaDoor
