/-
  Some parts of a closed call.
-/
import Derived.Test.YthponidjednfbaaGreatDoorEvS
import Derived.Test.YthponidjednfbaaGreatDoorEwg
namespace Go.Proofs.YthponidjednfbaaGreatDoor
open Ev (orB tabE)

set_option maxRecDepth 1000000 in
theorem Ewc0 : Ewe0.chk Tryz.prog idles (orB knowns (tabE Ewt0)) 400 100 = true := by kernel_rfl
set_option maxRecDepth 1000000 in
theorem Ewc1 : Ewe1.chk Tryz.prog idles (orB knowns (tabE Ewt1)) 400 100 = true := by kernel_rfl
set_option maxRecDepth 1000000 in
theorem Ewc2 : Ewe2.chk Tryz.prog idles (orB knowns (tabE Ewt2)) 400 100 = true := by kernel_rfl
set_option maxRecDepth 1000000 in
theorem Ewc3 : Ewe3.chk Tryz.prog idles (orB knowns (tabE Ewt3)) 400 100 = true := by kernel_rfl
set_option maxRecDepth 1000000 in
theorem Ewc4 : Ewe4.chk Tryz.prog idles (orB knowns (tabE Ewt4)) 400 100 = true := by kernel_rfl
end Go.Proofs.YthponidjednfbaaGreatDoor
