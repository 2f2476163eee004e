/-
  Some parts of a closed call.
-/
import Derived.Test.YthponidjednfbaaGreatDoorEvS
import Derived.Test.YthponidjednfbaaGreatDoorEwg
namespace Go.Proofs.YthponidjednfbaaGreatDoor
open Ev (orB tabE)

set_option maxRecDepth 1000000 in
theorem Ewc10 : Ewe10.chk Tryz.prog idles (orB knowns (tabE Ewt10)) 400 100 = true := by kernel_rfl
set_option maxRecDepth 1000000 in
theorem Ewc11 : Ewe11.chk Tryz.prog idles (orB knowns (tabE Ewt11)) 400 100 = true := by kernel_rfl
set_option maxRecDepth 1000000 in
theorem Ewc12 : Ewe12.chk Tryz.prog idles (orB knowns (tabE Ewt12)) 400 100 = true := by kernel_rfl
set_option maxRecDepth 1000000 in
theorem Ewc13 : Ewe13.chk Tryz.prog idles (orB knowns (tabE Ewt13)) 400 100 = true := by kernel_rfl
set_option maxRecDepth 1000000 in
theorem Ewc14 : Ewe14.chk Tryz.prog idles (orB knowns (tabE Ewt14)) 400 100 = true := by kernel_rfl
end Go.Proofs.YthponidjednfbaaGreatDoor
