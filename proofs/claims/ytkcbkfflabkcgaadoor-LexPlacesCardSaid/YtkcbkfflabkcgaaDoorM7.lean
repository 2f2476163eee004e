/-
  The walk of the references' Next.
-/
import Derived.Test.YtkcbkfflabkcgaaDoorM6
namespace Go.Proofs.YtkcbkfflabkcgaaDoor
open Go.RowKit

def rnextS (l : List UInt8) (i : Int) : Tk × Nat × Int :=
  if i < 0 ∨ (l.length : Int) < i ∨ 2000 < l.length then (noTk, 0, 3)
  else if (tokS l i.toNat).2 = 0 then ((tokS l i.toNat).1, i.toNat + far isBl l i.toNat, 0) else (noTk, i.toNat + far isBl l i.toNat, (tokS l i.toNat).2)
def TokErr3 (q : Tk × Nat × Int) (w : World) (e : Ending) (w' : World) : Prop := e = .returned (.tuple #[.agg (tokCells q.1), .int .i64 q.2.1, .int .i64 q.2.2]) ∧ Below w.heap.size w w'

end Go.Proofs.YtkcbkfflabkcgaaDoor
