/-
  Tc in one text.
-/
import Derived.Test.YtaaaaggmhjhkkaaGreatDoorS19
namespace Go.Proofs.YtaaaaggmhjhkkaaGreatDoor
open Go
theorem szE_kids (x:ET):szE x=1+szEL x.kids:=by cases x;rw[szE];rfl
end Go.Proofs.YtaaaaggmhjhkkaaGreatDoor
