/-
  basculelaw22.Awake answers true.
-/
import Derived.Test.YtmfjcklmagpkbaaGreatDoorEvI
namespace Go.Proofs.YtmfjcklmagpkbaaGreatDoor
open Go.RowKit
open Ev (IdleOK closed_call gaveB)

set_option maxRecDepth 1000000 in
theorem gave22 : gaveB Tryz.prog idles 400 100 7 = some true := by kernel_rfl
theorem awake22 (w : World) : Calls Tryz.prog 7 #[] w (Gave (.bool true) w) := closed_call idles_ok gave22 w
end Go.Proofs.YtmfjcklmagpkbaaGreatDoor
