/-
  Hf in one text.
-/
import Derived.Test.YtaaaaggmhjhkkaaGreatDoorS22
import Derived.Test.YtaaaaggmhjhkkaaGreatDoorS46
namespace Go.Proofs.YtaaaaggmhjhkkaaGreatDoor
open Go
theorem key_can (f:Nat):keyB (canon f)=keyB f:=by
 have h:=ordB_can (canon_canon f);unfold ordB at h;split at h
 ·cases h
 ·split at h
  ·cases h
  ·omega
theorem ordB_can0 (f:Nat):ordB (canon f) 0=ordB f 0:=by unfold ordB;rw[key_can]
mutual
theorem canV_canV8:∀ v:VT,canV (canV v)=canV v
 | .mk k n f s ns its=>by rw[canV,canV,canon_canon,canL_canL8 its]
theorem canL_canL8:∀ l:List VT,canL (canL l)=canL l
 | []=>by rw[canL,canL]
 | x::l=>by rw[canL,canL,canV_canV8 x,canL_canL8 l]
end
theorem constB_can (v:VT):constB (canV v)=constB v:=by
 have hr:=rightB_can v;obtain⟨k,n,f,s,ns,its⟩:=v;rw[canV]at hr ⊢
 show(if k=1∨k=4 then rightB (.mk k n (canon f) s ns (canL its)) else if k=2 then rightB (.mk k n (canon f) s ns (canL its))&&decide (0≤n) else if k=3 then rightB (.mk k n (canon f) s ns (canL its))&&decide (0≤ordB (canon f) 0) else false)=(if k=1∨k=4 then rightB (.mk k n f s ns its) else if k=2 then rightB (.mk k n f s ns its)&&decide (0≤n) else if k=3 then rightB (.mk k n f s ns its)&&decide (0≤ordB f 0) else false)
 rw[hr,ordB_can0]
theorem noneV_can {v:VT} (h:noneV v=true):noneV (canV v)=true:=by rw[none_can h];decide
mutual
theorem countE_can:∀ (x:ET) (n:Nat),countE (canE x) n=countE x n
 | .mk k s v ns ks,n=>by rw[canE,countE,countE,countEL_can ks]
theorem countEL_can:∀ (l:List ET) (n:Nat),countEL (canEL l) n=countEL l n
 | [],_=>rfl
 | x::xs,n=>by
  rw[canEL,countEL,countEL,countE_can x,countEL_can xs]
end
mutual
theorem rightE_can:∀ (x:ET) (far:Nat),rightE x far=true→rightE (canE x) far=true
 | .mk k s v ns ks,far,h=>by
  rw[rightE]at h;rw[canE,rightE];split at h
  ·cases h
  ·rename_i hf;rw[if_neg hf];simp only[Bool.and_eq_true]at h ⊢
   obtain⟨⟨⟨⟨h1,h2⟩,h3⟩,h4⟩,h5⟩:=h;refine⟨⟨⟨⟨h1,by rw[canEL_length];exact h2⟩,by rw[canEL_length];exact h3⟩,?_⟩,rightEL_can ks _ h5⟩;by_cases hk:k=1
   ·rw[if_pos hk]at h4 ⊢;rw[constB_can];exact h4
   ·rw[if_neg hk]at h4 ⊢;exact noneV_can h4
theorem rightEL_can:∀ (l:List ET) (far:Nat),rightEL l far=true→rightEL (canEL l) far=true
 | [],_,_=>by rw[canEL,rightEL]
 | x::xs,far,h=>by
  rw[rightEL,Bool.and_eq_true]at h;rw[canEL,rightEL,rightE_can x far h.1,rightEL_can xs far h.2];rfl
end
theorem rightEx_can {x:ET} (h:rightEx x=true):rightEx (canE x)=true:=by
 unfold rightEx at h ⊢
 rw[Bool.and_eq_true]at h ⊢
 exact⟨by rw[countE_can];exact h.1,rightE_can x 12 h.2⟩
theorem text_tokens {x:ET} (h:rightEx x=true) (hi:inE x) (r:List UInt8) (rs:List Te) (hr:FolN r) (ht:TokTo r rs):TokTo (textE x++r) (toksE x++rs):=by
 unfold rightEx at h;rw[Bool.and_eq_true]at h;exact(reads_E x 12 h.2 hi).1 r rs hr ht
end Go.Proofs.YtaaaaggmhjhkkaaGreatDoor
