/-
  Hf in one text.
-/
import Derived.Test.YtaaaaggmhjhkkaaGreatDoorS23
import Derived.Test.YtaaaaggmhjhkkaaGreatDoorS35
import Derived.Test.YtaaaaggmhjhkkaaGreatDoorS47
namespace Go.Proofs.YtaaaaggmhjhkkaaGreatDoor
open Go
theorem folN_nil:FolN []:=fun _ _ e=>by cases e
theorem text_exp {x:ET} (h:rightEx x=true):PostAt 98 (toksE x) (canE x)∧HeadT (toksE x):=by
 unfold rightEx at h;rw[Bool.and_eq_true]at h;exact post_E x 12 98 h.2 (by omega)
/-- THE LAW: what is written of an expression is parsed as it was -/
theorem back_plain {x:ET} (h:rightEx x=true) (hi:inE x) (hl:(textE x).length≤2000):parseX (textE x)=(canE x,0,0):=by
 have h1:=text_tokens h hi [] [] folN_nil (.nil rfl);rw[List.append_nil,List.append_nil]at h1;obtain⟨h2,h3⟩:=to_tokens hl h1;obtain⟨h4,h5⟩:=text_exp h;exact parse_ok hl h2 (by rw[h3];exact ex_end h4 h5) (rightEx_can h)
end Go.Proofs.YtaaaaggmhjhkkaaGreatDoor
