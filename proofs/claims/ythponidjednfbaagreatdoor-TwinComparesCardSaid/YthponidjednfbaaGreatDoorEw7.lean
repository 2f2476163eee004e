/-
  Some parts of a closed call.
-/
import Derived.Test.YthponidjednfbaaGreatDoorEvS
import Derived.Test.YthponidjednfbaaGreatDoorEwg
namespace Go.Proofs.YthponidjednfbaaGreatDoor
open Ev (orB tabE)

set_option maxRecDepth 1000000 in
theorem Ewc35 : Ewe35.chk Tryz.prog idles (orB knowns (tabE Ewt35)) 400 100 = true := by kernel_rfl
set_option maxRecDepth 1000000 in
theorem Ewc36 : Ewe36.chk Tryz.prog idles (orB knowns (tabE Ewt36)) 400 100 = true := by kernel_rfl
set_option maxRecDepth 1000000 in
theorem Ewc37 : Ewe37.chk Tryz.prog idles (orB knowns (tabE Ewt37)) 400 100 = true := by kernel_rfl
set_option maxRecDepth 1000000 in
theorem Ewc38 : Ewe38.chk Tryz.prog idles (orB knowns (tabE Ewt38)) 400 100 = true := by kernel_rfl
end Go.Proofs.YthponidjednfbaaGreatDoor
