/-
  Hf in one text.
-/
import Derived.Test.YtaaaaggmhjhkkaaGreatDoorS47
namespace Go.Proofs.YtaaaaggmhjhkkaaGreatDoor
open Go
mutual
theorem canE_canE:∀ x:ET,canE (canE x)=canE x
 | .mk k s v ns ks=>by rw[canE,canE,canV_canV8,canEL_canEL ks]
theorem canEL_canEL:∀ l:List ET,canEL (canEL l)=canEL l
 | []=>rfl
 | x::xs=>by rw[canEL,canEL,canE_canE x,canEL_canEL xs]
end
end Go.Proofs.YtaaaaggmhjhkkaaGreatDoor
