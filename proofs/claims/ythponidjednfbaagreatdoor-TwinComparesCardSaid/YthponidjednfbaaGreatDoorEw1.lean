/-
  Some parts of a closed call.
-/
import Derived.Test.YthponidjednfbaaGreatDoorEvS
import Derived.Test.YthponidjednfbaaGreatDoorEwg
namespace Go.Proofs.YthponidjednfbaaGreatDoor
open Ev (orB tabE)

set_option maxRecDepth 1000000 in
theorem Ewc5 : Ewe5.chk Tryz.prog idles (orB knowns (tabE Ewt5)) 400 100 = true := by kernel_rfl
set_option maxRecDepth 1000000 in
theorem Ewc6 : Ewe6.chk Tryz.prog idles (orB knowns (tabE Ewt6)) 400 100 = true := by kernel_rfl
set_option maxRecDepth 1000000 in
theorem Ewc7 : Ewe7.chk Tryz.prog idles (orB knowns (tabE Ewt7)) 400 100 = true := by kernel_rfl
set_option maxRecDepth 1000000 in
theorem Ewc8 : Ewe8.chk Tryz.prog idles (orB knowns (tabE Ewt8)) 400 100 = true := by kernel_rfl
set_option maxRecDepth 1000000 in
theorem Ewc9 : Ewe9.chk Tryz.prog idles (orB knowns (tabE Ewt9)) 400 100 = true := by kernel_rfl
end Go.Proofs.YthponidjednfbaaGreatDoor
