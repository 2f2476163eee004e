/-
  Some parts of a closed call.
-/
import Derived.Test.YthponidjednfbaaGreatDoorEvS
import Derived.Test.YthponidjednfbaaGreatDoorEwg
namespace Go.Proofs.YthponidjednfbaaGreatDoor
open Ev (orB tabE)

set_option maxRecDepth 1000000 in
theorem Ewc30 : Ewe30.chk Tryz.prog idles (orB knowns (tabE Ewt30)) 400 100 = true := by kernel_rfl
set_option maxRecDepth 1000000 in
theorem Ewc31 : Ewe31.chk Tryz.prog idles (orB knowns (tabE Ewt31)) 400 100 = true := by kernel_rfl
set_option maxRecDepth 1000000 in
theorem Ewc32 : Ewe32.chk Tryz.prog idles (orB knowns (tabE Ewt32)) 400 100 = true := by kernel_rfl
set_option maxRecDepth 1000000 in
theorem Ewc33 : Ewe33.chk Tryz.prog idles (orB knowns (tabE Ewt33)) 400 100 = true := by kernel_rfl
set_option maxRecDepth 1000000 in
theorem Ewc34 : Ewe34.chk Tryz.prog idles (orB knowns (tabE Ewt34)) 400 100 = true := by kernel_rfl
end Go.Proofs.YthponidjednfbaaGreatDoor
