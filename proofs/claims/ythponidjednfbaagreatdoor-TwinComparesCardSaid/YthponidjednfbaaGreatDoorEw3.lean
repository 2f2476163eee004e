/-
  Some parts of a closed call.
-/
import Derived.Test.YthponidjednfbaaGreatDoorEvS
import Derived.Test.YthponidjednfbaaGreatDoorEwg
namespace Go.Proofs.YthponidjednfbaaGreatDoor
open Ev (orB tabE)

set_option maxRecDepth 1000000 in
theorem Ewc15 : Ewe15.chk Tryz.prog idles (orB knowns (tabE Ewt15)) 400 100 = true := by kernel_rfl
set_option maxRecDepth 1000000 in
theorem Ewc16 : Ewe16.chk Tryz.prog idles (orB knowns (tabE Ewt16)) 400 100 = true := by kernel_rfl
set_option maxRecDepth 1000000 in
theorem Ewc17 : Ewe17.chk Tryz.prog idles (orB knowns (tabE Ewt17)) 400 100 = true := by kernel_rfl
set_option maxRecDepth 1000000 in
theorem Ewc18 : Ewe18.chk Tryz.prog idles (orB knowns (tabE Ewt18)) 400 100 = true := by kernel_rfl
set_option maxRecDepth 1000000 in
theorem Ewc19 : Ewe19.chk Tryz.prog idles (orB knowns (tabE Ewt19)) 400 100 = true := by kernel_rfl
end Go.Proofs.YthponidjednfbaaGreatDoor
