/-
  The walk of the references' All and Word.
-/
import Derived.Test.YtkcbkfflabkcgaaDoorM7
import Derived.Test.YtkcbkfflabkcgaaDoorKe
namespace Go.Proofs.YtkcbkfflabkcgaaDoor
open Go.RowKit

theorem Toks.below {B : Nat} {v : Value} {l : List Tk} {w w' : World} (h : Toks B v l w) (hb : Below w.heap.size w w') : Toks B v l w' :=
  World.ownsRow.kept (row := none) h ⟨hb.os, hb.tape, hb.output, hb.size, fun k hk _ => hb.block k hk⟩ (Classical.em _)

end Go.Proofs.YtkcbkfflabkcgaaDoor
