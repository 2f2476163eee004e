/-
  One part of a closed call.
-/
import Derived.Test.YtibjgkdnnoolbaaGreatDoorEvO
import Derived.Test.YtibjgkdnnoolbaaGreatDoorExg
namespace Go.Proofs.YtibjgkdnnoolbaaGreatDoor
open Ev (orB tabE)

set_option maxRecDepth 1000000 in
theorem Exc5 : Exe5.chk Tryz.prog idles (orB builders (tabE Ext5)) 400 100 = true := by kernel_rfl
end Go.Proofs.YtibjgkdnnoolbaaGreatDoor
