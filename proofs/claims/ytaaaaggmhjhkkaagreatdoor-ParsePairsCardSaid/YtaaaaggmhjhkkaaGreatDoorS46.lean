/-
  Aj in one text.
-/
import Derived.Deep.AppendLies
import Derived.Deep.CutBlock
import Derived.Test.YtaaaaggmhjhkkaaGreatDoorS10
import Derived.Test.YtaaaaggmhjhkkaaGreatDoorS12
namespace Go.Proofs.YtaaaaggmhjhkkaaGreatDoor
open Go.RowKit
theorem zeroB_can (f:Nat):zeroB (canon f)=zeroB f:=by unfold zeroB;rw[canon_canon]
theorem canL_isE (l:List VT):(canL l).isEmpty=l.isEmpty:=by cases l<;>rfl
mutual
theorem rightV_can:∀ (v:VT) (far:Nat),rightV (canV v) far=rightV v far
 | .mk k n f s ns its,far=>by
  rw[canV,rightV,rightV,zeroB_can,canL_isE,canL_length,rightL_can its (far - 1)]
theorem rightL_can:∀ (l:List VT) (far:Nat),rightL (canL l) far=rightL l far
 | [],_=>by rw[canL]
 | x::xs,far=>by rw[canL,rightL,rightL,rightV_can x far,rightL_can xs far]
end
mutual
theorem countV_can:∀ (v:VT) (n:Nat),countV (canV v) n=countV v n
 | .mk k m f s ns its,n=>by rw[canV,countV,countV,countL_can its]
theorem countL_can:∀ (l:List VT) (n:Nat),countL (canL l) n=countL l n
 | [],_=>by rw[canL]
 | x::xs,n=>by rw[canL,countL,countL,countV_can x,countL_can xs]
end
theorem rightB_can (v:VT):rightB (canV v)=rightB v:=by unfold rightB;rw[countV_can,rightV_can]
end Go.Proofs.YtaaaaggmhjhkkaaGreatDoor
