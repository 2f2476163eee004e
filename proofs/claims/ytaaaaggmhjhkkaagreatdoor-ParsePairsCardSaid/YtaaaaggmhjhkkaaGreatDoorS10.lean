/-
  Q2, U0, Sh, U5, U9 in one text.
-/
import Derived.Deep.DeepCutAuto
import Derived.Deep.RegionHeld3
import Derived.Lib.ConvBytes
import Derived.StillTailTactics
import Derived.Test.YtaaaaggmhjhkkaaGreatDoorS01
import Derived.Test.YtaaaaggmhjhkkaaGreatDoorS05
namespace Go.Proofs.YtaaaaggmhjhkkaaGreatDoor
section
open Go
mutual
def canV:VT→VT
 | .mk k n f s ns its=>.mk k n (canon f) s ns (canL its)
def canL:List VT→List VT
 | []=>[]
 | x::xs=>canV x::canL xs
end
theorem canL_length:∀ l:List VT,(canL l).length=l.length
 | []=>rfl
 | x::xs=>by rw[canL,List.length_cons,canL_length xs,List.length_cons]
end
section
open Go
def sgnI (a b:Int):Int:=if a<b then -1 else if b<a then 1 else 0
def txtO (a b:List UInt8):Int:=if Op.bytesLess a b=true then -1 else if a=b then 0 else 1
def rowsO:List (List UInt8)→List (List UInt8)→Int
 | a::us,b::vs=>if txtO a b=0 then rowsO us vs else txtO a b
 | [],vs=>sgnI 0 vs.length
 | a::us,[]=>sgnI (a::us).length 0
mutual
/-- the order of two values -/
def ordV:VT→VT→Int
 | .mk k n f s ns its,.mk k' n' f' s' ns' its' =>
  if k=k' then
   if k=1∨k=2 then sgnI n n' else if k=3 then ordB f f' else if k=4 then txtO s s'
   else if k=5 then ordL its its'
   else if k=6 then(if rowsO ns ns'=0 then ordL its its' else rowsO ns ns')
   else if sgnI n n'=0 then(if txtO s s'=0 then(if rowsO ns ns'=0 then ordL its its' else rowsO ns ns') else txtO s s') else sgnI n n'
  else sgnI k k'
def ordL:List VT→List VT→Int
 | [],vs=>sgnI 0 vs.length
 | a::us,[]=>sgnI (a::us).length 0
 | a::us,b::vs=>if ordV a b=0 then ordL us vs else ordV a b
end
theorem ordV_ne {a b:VT} (h:a.kind≠b.kind):ordV a b=sgnI a.kind b.kind:=by
 obtain⟨k,n,f,s,ns,its⟩:=a;obtain⟨k',n',f',s',ns',its'⟩:=b;have h:k≠k':=h;rw[ordV,if_neg h];rfl
theorem ordV_n {a b:VT} (h:a.kind=b.kind) (hk:a.kind=1∨a.kind=2):ordV a b=sgnI a.num b.num:=by
 obtain⟨k,n,f,s,ns,its⟩:=a;obtain⟨k',n',f',s',ns',its'⟩:=b;have h:k=k':=h;have hk:k=1∨k=2:=hk;rw[ordV,if_pos h,if_pos hk];rfl
theorem ordV_f {a b:VT} (h:a.kind=b.kind) (hk:a.kind=3):ordV a b=ordB a.flt b.flt:=by
 obtain⟨k,n,f,s,ns,its⟩:=a;obtain⟨k',n',f',s',ns',its'⟩:=b;have h:k=k':=h;have hk:k=3:=hk;rw[ordV,if_pos h,if_neg (by omega),if_pos hk];rfl
theorem ordV_s {a b:VT} (h:a.kind=b.kind) (hk:a.kind=4):ordV a b=txtO a.str b.str:=by
 obtain⟨k,n,f,s,ns,its⟩:=a;obtain⟨k',n',f',s',ns',its'⟩:=b;have h:k=k':=h;have hk:k=4:=hk;rw[ordV,if_pos h,if_neg (by omega),if_neg (by omega),if_pos hk];rfl
theorem ordV_5 {a b:VT} (h:a.kind=b.kind) (hk:a.kind=5):ordV a b=ordL a.items b.items:=by
 obtain⟨k,n,f,s,ns,its⟩:=a;obtain⟨k',n',f',s',ns',its'⟩:=b;have h:k=k':=h;have hk:k=5:=hk;rw[ordV,if_pos h,if_neg (by omega),if_neg (by omega),if_neg (by omega),if_pos hk];rfl
theorem ordV_6 {a b:VT} (h:a.kind=b.kind) (hk:a.kind=6):ordV a b=if rowsO a.names b.names=0 then ordL a.items b.items else rowsO a.names b.names:=by
 obtain⟨k,n,f,s,ns,its⟩:=a;obtain⟨k',n',f',s',ns',its'⟩:=b;have h:k=k':=h;have hk:k=6:=hk;rw[ordV,if_pos h,if_neg (by omega),if_neg (by omega),if_neg (by omega),if_neg (by omega),if_pos hk];rfl
theorem ordV_x {a b:VT} (h:a.kind=b.kind) (h1:a.kind≠1) (h2:a.kind≠2) (h3:a.kind≠3) (h4:a.kind≠4) (h5:a.kind≠5) (h6:a.kind≠6) :
  ordV a b=if sgnI a.num b.num=0 then(if txtO a.str b.str=0 then(if rowsO a.names b.names=0 then ordL a.items b.items else rowsO a.names b.names) else txtO a.str b.str) else sgnI a.num b.num:=by
 obtain⟨k,n,f,s,ns,its⟩:=a;obtain⟨k',n',f',s',ns',its'⟩:=b;have h:k=k':=h;have h1:k≠1:=h1;have h2:k≠2:=h2;have h3:k≠3:=h3;have h4:k≠4:=h4;have h5:k≠5:=h5;have h6:k≠6:=h6;rw[ordV,if_pos h,if_neg (by omega),if_neg h3,if_neg h4,if_neg h5,if_neg h6];rfl
/-- what is found ahead of the names, and ahead of the items -/
def preO (a b:VT):Int:=if a.kind=5∨a.kind=6 then 0 else if sgnI a.num b.num=0 then txtO a.str b.str else sgnI a.num b.num
def headO (a b:VT):Int:=if preO a b=0∧a.kind≠5 then rowsO a.names b.names else preO a b
theorem preO_l {a b:VT} (h:a.kind=5∨a.kind=6):preO a b=0:=by unfold preO;rw[if_pos h]
theorem preO_n {a b:VT} (h5:a.kind≠5) (h6:a.kind≠6) (h:sgnI a.num b.num≠0):preO a b=sgnI a.num b.num:=by unfold preO;rw[if_neg (by omega),if_neg h]
theorem preO_s {a b:VT} (h5:a.kind≠5) (h6:a.kind≠6) (h:sgnI a.num b.num=0):preO a b=txtO a.str b.str:=by unfold preO;rw[if_neg (by omega),if_pos h]
theorem headO_r {a b:VT} (h:preO a b=0) (h5:a.kind≠5):headO a b=rowsO a.names b.names:=by unfold headO;rw[if_pos ⟨h,h5⟩]
theorem headO_5 {a b:VT} (h5:a.kind=5):headO a b=preO a b:=by unfold headO;rw[if_neg (fun h=>h.2 h5)]
theorem headO_p {a b:VT} (h:preO a b≠0):headO a b=preO a b:=by unfold headO;rw[if_neg (fun k=>h k.1)]
theorem ordV_gen {a b:VT} (h:a.kind=b.kind) (h1:a.kind≠1) (h2:a.kind≠2) (h3:a.kind≠3) (h4:a.kind≠4):ordV a b=if headO a b=0 then ordL a.items b.items else headO a b:=by
 by_cases h5:a.kind=5
 ·rw[ordV_5 h h5,headO_5 h5,preO_l (.inl h5),if_pos rfl]
 ·by_cases h6:a.kind=6
  ·rw[ordV_6 h h6,headO_r (preO_l (.inr h6)) h5]
  ·rw[ordV_x h h1 h2 h3 h4 h5 h6];by_cases hn:sgnI a.num b.num=0
   ·rw[if_pos hn];by_cases hs:txtO a.str b.str=0
    ·rw[if_pos hs,headO_r (by rw[preO_s h5 h6 hn,hs]) h5]
    ·rw[if_neg hs,headO_p (by rw[preO_s h5 h6 hn];exact hs),preO_s h5 h6 hn,if_neg hs]
   ·rw[if_neg hn,headO_p (by rw[preO_n h5 h6 hn];exact hn),preO_n h5 h6 hn,if_neg hn]
theorem ordL_step {a b:List VT} {i:Nat} (hi:i<a.length) (hj:i<b.length):ordL (a.drop i) (b.drop i)=if ordV (a.getD i noVT) (b.getD i noVT)=0 then ordL (a.drop (i+1)) (b.drop (i+1)) else ordV (a.getD i noVT) (b.getD i noVT):=by
 rw[List.drop_eq_getElem_cons hi,List.drop_eq_getElem_cons hj,ordL];simp[List.getD,hi,hj]
theorem sgnI_sub (n m i:Nat) (h1:i≤n) (h2:i≤m):sgnI ((n - i:Nat):Int) ((m - i:Nat):Int)=sgnI (n:Int) (m:Int):=by
 unfold sgnI;repeat' split
 all_goals omega
theorem ordL_end {a b:List VT} {i:Nat} (h1:i≤a.length) (h2:i≤b.length) (h:a.length≤i∨b.length≤i):ordL (a.drop i) (b.drop i)=sgnI (a.length:Int) (b.length:Int):=by
 rw[←sgnI_sub _ _ i h1 h2,←List.length_drop,←List.length_drop];generalize ha:a.drop i=x;generalize hb:b.drop i=y;cases x with
 | nil=>rw[ordL];rfl
 | cons u us =>
  cases y with
  | nil=>rw[ordL];rfl
  | cons v vs =>
   have l1:=congrArg List.length ha;have l2:=congrArg List.length hb;simp at l1 l2;omega
theorem rowsO_step {a b:List (List UInt8)} {i:Nat} (hi:i<a.length) (hj:i<b.length):rowsO (a.drop i) (b.drop i)=if txtO (a.getD i []) (b.getD i [])=0 then rowsO (a.drop (i+1)) (b.drop (i+1)) else txtO (a.getD i []) (b.getD i []):=by
 rw[List.drop_eq_getElem_cons hi,List.drop_eq_getElem_cons hj,rowsO];simp[List.getD,hi,hj]
theorem rowsO_end {a b:List (List UInt8)} {i:Nat} (h1:i≤a.length) (h2:i≤b.length) (h:a.length≤i∨b.length≤i):rowsO (a.drop i) (b.drop i)=sgnI (a.length:Int) (b.length:Int):=by
 rw[←sgnI_sub _ _ i h1 h2,←List.length_drop,←List.length_drop];generalize ha:a.drop i=x;generalize hb:b.drop i=y;cases x with
 | nil=>rw[rowsO];rfl
 | cons u us =>
  cases y with
  | nil=>rw[rowsO];rfl
  | cons v vs =>
   have l1:=congrArg List.length ha;have l2:=congrArg List.length hb;simp at l1 l2;omega
theorem less_self':∀ l:List UInt8,Op.bytesLess l l=false
 | []=>rfl
 | x::l=>by
  rw[Op.bytesLess];simp[less_self' l]
theorem txtO_self (l:List UInt8):txtO l l=0:=by
 unfold txtO;rw[less_self',if_neg (by decide),if_pos rfl]
theorem sgnI_self (n:Int):sgnI n n=0:=by
 unfold sgnI;simp
theorem rowsO_self:∀ l:List (List UInt8),rowsO l l=0
 | []=>rfl
 | x::l=>by rw[rowsO,txtO_self,if_pos rfl,rowsO_self l]
end
section
open Go.RowKit
theorem ordB_can {a b:Nat} (h:canon a=canon b):ordB a b=0:=by
 have hk:keyB a=keyB b:=by
  unfold canon at h;unfold keyB;by_cases ha:Fl.isNaN a=true
  ·by_cases hb:Fl.isNaN b=true
   ·rw[if_pos ha,if_pos hb]
   ·rw[if_pos ha,if_neg hb]at h;subst h;exact absurd nan_cnan hb
  ·by_cases hb:Fl.isNaN b=true
   ·rw[if_neg ha,if_pos hb]at h;subst h;exact absurd nan_cnan ha
   ·rw[if_neg ha,if_neg hb]at h;rw[h]
 unfold ordB;rw[hk];simp
end
section
open Go.RowKit
/-- are two values the same? -/
def sameV (a b:VT):Bool:=decide (ordV a b=0)
end
section
open Go
mutual
theorem ordV_same:∀ (a b:VT),canV a=canV b→ordV a b=0
 | .mk k n f s ns its,.mk k' n' f' s' ns' its',h=>by
  rw[canV,canV]at h;simp only[VT.mk.injEq]at h;obtain⟨rfl,rfl,hf,rfl,rfl,hi⟩:=h;have hl:=ordL_same its its' hi;rw[ordV,if_pos rfl,sgnI_self,txtO_self,rowsO_self,if_pos rfl,if_pos rfl,if_pos rfl,hl,ordB_can hf];repeat' split
  all_goals rfl
theorem ordL_same:∀ (l m:List VT),canL l=canL m→ordL l m=0
 | [],[],_=>by rw[ordL];rfl
 | [],y::m,h=>by rw[canL,canL]at h;cases h
 | x::l,[],h=>by rw[canL,canL]at h;cases h
 | x::l,y::m,h=>by
  rw[canL,canL]at h;simp only[List.cons.injEq]at h;rw[ordL,ordV_same x y h.1,if_pos rfl];exact ordL_same l m h.2
end
theorem sameV_can {a b:VT} (h:canV a=canV b):sameV a b=true:=by
 unfold sameV;rw[ordV_same a b h];rfl
end
end Go.Proofs.YtaaaaggmhjhkkaaGreatDoor
