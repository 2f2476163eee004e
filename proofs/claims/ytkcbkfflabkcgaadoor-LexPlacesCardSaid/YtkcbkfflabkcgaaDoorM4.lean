/-
  The walk of the references' number: an int.
-/
import Derived.Test.YtkcbkfflabkcgaaDoorM3
namespace Go.Proofs.YtkcbkfflabkcgaaDoor
open Go.RowKit

end Go.Proofs.YtkcbkfflabkcgaaDoor
