/-
  Some parts of a closed call.
-/
import Derived.Test.YthponidjednfbaaGreatDoorEvS
import Derived.Test.YthponidjednfbaaGreatDoorEwg
namespace Go.Proofs.YthponidjednfbaaGreatDoor
open Ev (orB tabE)

set_option maxRecDepth 1000000 in
theorem Ewc25 : Ewe25.chk Tryz.prog idles (orB knowns (tabE Ewt25)) 400 100 = true := by kernel_rfl
set_option maxRecDepth 1000000 in
theorem Ewc26 : Ewe26.chk Tryz.prog idles (orB knowns (tabE Ewt26)) 400 100 = true := by kernel_rfl
set_option maxRecDepth 1000000 in
theorem Ewc27 : Ewe27.chk Tryz.prog idles (orB knowns (tabE Ewt27)) 400 100 = true := by kernel_rfl
set_option maxRecDepth 1000000 in
theorem Ewc28 : Ewe28.chk Tryz.prog idles (orB knowns (tabE Ewt28)) 400 100 = true := by kernel_rfl
set_option maxRecDepth 1000000 in
theorem Ewc29 : Ewe29.chk Tryz.prog idles (orB knowns (tabE Ewt29)) 400 100 = true := by kernel_rfl
end Go.Proofs.YthponidjednfbaaGreatDoor
