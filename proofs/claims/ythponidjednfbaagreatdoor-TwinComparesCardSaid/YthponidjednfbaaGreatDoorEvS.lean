/-
  Calls that are known beforehand, together.
-/
import Derived.Test.YthponidjednfbaaGreatDoorEvO
import Derived.Test.YthponidjednfbaaGreatDoorEvN
import Derived.Test.YthponidjednfbaaGreatDoorEvR
namespace Go.Proofs.YthponidjednfbaaGreatDoor
open Ev (CallE CallOK orB orB_sound)
noncomputable abbrev knowns : CallE := orB builders (orB delQ sortQ)
theorem knowns_ok (N0 : Nat) : CallOK Tryz.prog N0 knowns := orB_sound (builders_ok N0) (orB_sound (delQ_sound N0) (sortQ_sound N0))
end Go.Proofs.YthponidjednfbaaGreatDoor
