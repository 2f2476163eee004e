/-
  Some parts of a closed call.
-/
import Derived.Test.YthponidjednfbaaGreatDoorEvS
import Derived.Test.YthponidjednfbaaGreatDoorEwg
namespace Go.Proofs.YthponidjednfbaaGreatDoor
open Ev (orB tabE)

set_option maxRecDepth 1000000 in
theorem Ewc20 : Ewe20.chk Tryz.prog idles (orB knowns (tabE Ewt20)) 400 100 = true := by kernel_rfl
set_option maxRecDepth 1000000 in
theorem Ewc21 : Ewe21.chk Tryz.prog idles (orB knowns (tabE Ewt21)) 400 100 = true := by kernel_rfl
set_option maxRecDepth 1000000 in
theorem Ewc22 : Ewe22.chk Tryz.prog idles (orB knowns (tabE Ewt22)) 400 100 = true := by kernel_rfl
set_option maxRecDepth 1000000 in
theorem Ewc23 : Ewe23.chk Tryz.prog idles (orB knowns (tabE Ewt23)) 400 100 = true := by kernel_rfl
set_option maxRecDepth 1000000 in
theorem Ewc24 : Ewe24.chk Tryz.prog idles (orB knowns (tabE Ewt24)) 400 100 = true := by kernel_rfl
end Go.Proofs.YthponidjednfbaaGreatDoor
