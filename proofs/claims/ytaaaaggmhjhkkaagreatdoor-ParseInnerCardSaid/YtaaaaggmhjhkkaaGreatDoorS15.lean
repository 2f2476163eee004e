/-
  Na, Ng in one text.
-/
import Derived.Test.YtaaaaggmhjhkkaaGreatDoorS07
namespace Go.Proofs.YtaaaaggmhjhkkaaGreatDoor
section
open Go
theorem far_each (p:UInt8→Bool) {l:List UInt8} {a k:Nat} (hak:a≤k) (hk:k<a+far p l a) (ha:a≤l.length):p (l.getD k 0)=true:=by
 have hle:=far_le p l ha;have h:=part_all p l a;rw[List.all_eq_true]at h;refine h _ ?_;have hkl:k<l.length:=by omega
 have e:l.getD k 0=l[k]:=by simp[List.getD,hkl]
 rw[e];unfold part;rw[Nat.add_sub_cancel_left];refine List.mem_iff_getElem.2 ⟨k - a,by rw[List.length_take,List.length_drop];omega,?_⟩;rw[List.getElem_take,List.getElem_drop];congr 1
 omega
end
section
open Go
theorem take_stop (p:UInt8→Bool):∀ q:List UInt8,(q.takeWhile p).length<q.length→p (q.getD (q.takeWhile p).length 0)=false
 | [],h=>by simp at h
 | x::q,h=>by
  by_cases hx:p x=true
  ·rw[List.takeWhile_cons,if_pos hx]at h ⊢
   exact take_stop p q (by simpa using h)
  ·rw[List.takeWhile_cons,if_neg hx];simpa using hx
theorem far_next (p:UInt8→Bool) {l:List UInt8} {b:Nat} (h:b+far p l b<l.length):p (l.getD (b+far p l b) 0)=false:=by
 have h1:=take_stop p (l.drop b) (by rw[List.length_drop];unfold far at h;omega);unfold far;rw[List.getD_eq_getElem?_getD,←List.getElem?_drop,←List.getD_eq_getElem?_getD];exact h1
theorem drop_part {l:List UInt8} {a e:Nat} (h:a≤e):l.drop a=part l a e++l.drop e:=by
 unfold part;have:=(List.take_append_drop (e - a) (l.drop a)).symm;rw[List.drop_drop,show a+(e - a)=e by omega]at this;exact this
end
end Go.Proofs.YtaaaaggmhjhkkaaGreatDoor
