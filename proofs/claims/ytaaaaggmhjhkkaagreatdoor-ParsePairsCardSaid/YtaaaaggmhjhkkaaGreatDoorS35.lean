/-
  E8, H4 in one text.
-/
import Derived.Test.YtaaaaggmhjhkkaaGreatDoorS22
import Derived.Test.YtaaaaggmhjhkkaaGreatDoorS34
namespace Go.Proofs.YtaaaaggmhjhkkaaGreatDoor
section
open Go
section
variable {r0:List Te} {E:List Te→PR}
end
section
variable {E E':List Te→PR}
end
theorem to_tokens {l:List UInt8} {ts:List Te} (hl:l.length≤2000) (h:TokTo l ts):(tokens l).2.2=0∧tesOf l=ts:=by
 unfold tesOf tokens;rw[if_neg (by omega)];exact all_of_to h (l.length+1) 0 (by omega) rfl (by omega)
/-- what a text's tokens give -/
theorem parse_ok {l:List UInt8} {x:ET} (hl:l.length≤2000) (h:(tokens l).2.2=0) (he:(exUn 100).1 (tesOf l)=.ok (x,[])) (hr:rightEx x=true):parseX l=(x,0,0):=by
 unfold parseX;unfold tesOf at he;rw[if_neg (by omega),if_neg (by omega)];dsimp only;rw[he];dsimp only;rw[if_neg (by simp),if_pos hr]
end
section
open Go.RowKit
theorem canE_eq {a b:ET} (h:canE a=canE b):a.kind=b.kind∧a.str=b.str∧canV a.v=canV b.v∧a.names=b.names∧canEL a.kids=canEL b.kids:=by
 obtain⟨k,s,v,ns,ks⟩:=a;obtain⟨k',s',v',ns',ks'⟩:=b;rw[canE,canE]at h;injection h with h1 h2 h3 h4 h5
 exact⟨h1,h2,h3,h4,h5⟩
theorem canEL_get:∀ (l:List ET) (i:Nat),i<l.length→(canEL l).getD i noET=canE (l.getD i noET)
 | [],_,h=>absurd h (by simp)
 | x::xs,0,_=>rfl
 | x::xs,i+1,h=>by
  have:=canEL_get xs i (by simpa using h);rw[canEL];simpa using this
end
end Go.Proofs.YtaaaaggmhjhkkaaGreatDoor
