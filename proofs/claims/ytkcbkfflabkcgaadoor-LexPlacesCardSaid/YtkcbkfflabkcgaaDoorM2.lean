/-
  The walk of the references' name.
-/
import Derived.Test.YtkcbkfflabkcgaaDoorM1
import Derived.Test.YtkcbkfflabkcgaaDoorKc
import Derived.Test.YtkcbkfflabkcgaaDoorR5
import Derived.Deep.Cut
namespace Go.Proofs.YtkcbkfflabkcgaaDoor
open Go.RowKit

/-- what the references' readings of a token leave -/
def RefTok (r : Tk × Int) (w : World) (e : Ending) (w' : World) : Prop :=
  ∃ k, e = .returned (.tuple #[.agg (tokCells k), .int .i64 r.2]) ∧ (r.2 = 0 → k = r.1) ∧ Below w.heap.size w w'
theorem TokAt.belowP {t : Nat} {k : Tk} {w w' : World} (h : TokAt t k w) (hb : Below w.heap.size w w') : TokAt t k w' := (hb.block t (lt_of_block h)).trans h

end Go.Proofs.YtkcbkfflabkcgaaDoor
