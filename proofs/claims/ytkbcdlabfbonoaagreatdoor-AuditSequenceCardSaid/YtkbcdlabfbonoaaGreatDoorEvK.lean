/-
  basculelaw23.awake answers true.
-/
import Derived.Test.YtkbcdlabfbonoaaGreatDoorEvI
namespace Go.Proofs.YtkbcdlabfbonoaaGreatDoor
open Go.RowKit
open Ev (IdleOK closed_call gaveB)

set_option maxRecDepth 1000000 in
theorem gave23 : gaveB Tryz.prog idles 400 100 4 = some true := by kernel_rfl
theorem awake23 (w : World) : Calls Tryz.prog 4 #[] w (Gave (.bool true) w) := closed_call idles_ok gave23 w
end Go.Proofs.YtkbcdlabfbonoaaGreatDoor
