/-
  Bs4 in one text.
-/
import Derived.Below
import Derived.Deep.QuietTactic
import Derived.Lib.Builder
import Derived.OneCell
import Derived.OwnWalk
import Derived.Test.YtkbcdlabfbonoaaGreatDoorChecked
import Derived.Test.YtkbcdlabfbonoaaGreatDoorEv3
namespace Go.Proofs.YtkbcdlabfbonoaaGreatDoor
open Go.RowKit
section
variable {P : Program} {ops : Array Oper} {rest : List Oper} {o : Oper} {a : Act} {Q : Exit → Act → World → Prop} {w w' : World} {v : Value}
theorem wpList_do (hg : o.guard = none) (hr : (execOp a.eval o).run P w = .ok (.value v) w') (h : wpList P ops Q rest (a.put o.dst v) w') : wpList P ops Q (o :: rest) a w :=
  wpList_plain hg fun _ hK => by
    unfold Oper.wp
    rw [hr]
    exact hK _ _ h
end
end Go.Proofs.YtkbcdlabfbonoaaGreatDoor
