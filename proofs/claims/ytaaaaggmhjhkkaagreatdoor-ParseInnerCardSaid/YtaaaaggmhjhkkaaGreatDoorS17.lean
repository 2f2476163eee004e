/-
  E3 in one text.
-/
import Derived.Test.YtaaaaggmhjhkkaaGreatDoorS15
import Derived.Test.YtaaaaggmhjhkkaaGreatDoorS16
namespace Go.Proofs.YtaaaaggmhjhkkaaGreatDoor
open Go
theorem take_keep (p:UInt8→Bool):∀ (u r r':List UInt8) (c:UInt8),((u++c::r).takeWhile p).length≤u.length→((u++c::r').takeWhile p).length=((u++c::r).takeWhile p).length
 | [],r,r',c,h=>by
  rw[List.nil_append,List.takeWhile_cons]at h ⊢
  rw[List.nil_append,List.takeWhile_cons];by_cases hc:p c=true
  ·rw[if_pos hc]at h;simp at h
  ·rw[if_neg hc,if_neg hc]
 | x::u,r,r',c,h=>by
  rw[List.cons_append,List.takeWhile_cons]at h;rw[List.cons_append,List.cons_append,List.takeWhile_cons,List.takeWhile_cons];by_cases hx:p x=true
  ·rw[if_pos hx]at h ⊢
   rw[if_pos hx,List.length_cons,List.length_cons,take_keep p u r r' c (by simpa using h)]
  ·rw[if_neg hx,if_neg hx]
theorem far_keep (p:UInt8→Bool) {t r r':List UInt8} {c:UInt8} {a:Nat} (ha:a≤t.length) (h:a+far p (t++c::r) a≤t.length):far p (t++c::r') a=far p (t++c::r) a:=by
 unfold far at h ⊢
 rw[List.drop_append_of_le_length ha]at h ⊢
 rw[List.drop_append_of_le_length ha];exact take_keep p _ r r' c (by rw[List.length_drop];omega)
theorem numS_keep {t r r':List UInt8} {c:UInt8} {k:Tk} (h:numS (t++c::r) 0=(k,0)) (hk:k.next=t.length):numS (t++c::r') 0=(k,0):=by
 rw[←h];have hd:=h;unfold numS at hd ⊢
 dsimp only at hd ⊢
 rw[Nat.zero_add]at hd;rw[Nat.zero_add,Nat.zero_add];by_cases hp:(t++c::r)[far isDig (t++c::r) 0]?=some 112
 ·rw[if_pos hp]at hd;by_cases hm:(t++c::r)[far isDig (t++c::r) 0+1]?=some 45
  ·rw[if_pos hm]at hd;by_cases hz:far isDig (t++c::r) (far isDig (t++c::r) 0+2)=0
   ·rw[if_pos hz]at hd;cases hd
   ·rw[if_neg hz]at hd;have hn:far isDig (t++c::r) 0+2+far isDig (t++c::r) (far isDig (t++c::r) 0+2)=t.length:=by rw[←hk,←congrArg (fun q=>q.1.next) hd]
    have f0:far isDig (t++c::r') 0=far isDig (t++c::r) 0:=far_keep isDig (by omega) (by omega);rw[f0,get_same (r:=c::r) (by omega),if_pos hp,get_same (r:=c::r) (by omega),if_pos hm];have f2:far isDig (t++c::r') (far isDig (t++c::r) 0+2)=far isDig (t++c::r) (far isDig (t++c::r) 0+2):=far_keep isDig (by omega) (by omega);rw[f2,part_same (r:=c::r) (by omega) (by omega),if_pos hp]
  ·rw[if_neg hm]at hd;by_cases hz:far isDig (t++c::r) (far isDig (t++c::r) 0+1)=0
   ·rw[if_pos hz]at hd;cases hd
   ·rw[if_neg hz]at hd;have hn:far isDig (t++c::r) 0+1+far isDig (t++c::r) (far isDig (t++c::r) 0+1)=t.length:=by rw[←hk,←congrArg (fun q=>q.1.next) hd]
    have f0:far isDig (t++c::r') 0=far isDig (t++c::r) 0:=far_keep isDig (by omega) (by omega);rw[f0,get_same (r:=c::r) (by omega),if_pos hp,get_same (r:=c::r) (by omega),if_neg hm];have f2:far isDig (t++c::r') (far isDig (t++c::r) 0+1)=far isDig (t++c::r) (far isDig (t++c::r) 0+1):=far_keep isDig (by omega) (by omega);rw[f2,part_same (r:=c::r) (by omega) (by omega),if_pos hp]
 ·rw[if_neg hp]at hd;by_cases hcd:19<far isDig (t++c::r) 0∨9223372036854775808≤decVal (part (t++c::r) 0 (far isDig (t++c::r) 0))
  ·rw[if_pos hcd]at hd;cases hd
  ·rw[if_neg hcd]at hd;have hn:far isDig (t++c::r) 0=t.length:=by rw[←hk,←congrArg (fun q=>q.1.next) hd]
   have f0:far isDig (t++c::r') 0=far isDig (t++c::r) 0:=far_keep isDig (by omega) (by omega);have hg:¬ (t++c::r')[far isDig (t++c::r) 0]?=some 112:=by
    rw[hn]at hp ⊢
    rw[List.getElem?_append_right (Nat.le_refl _),Nat.sub_self]at hp ⊢
    exact hp
   rw[f0,if_neg hg,part_same (r:=c::r) (by omega) (by omega),if_neg hp]
theorem nameS_keep {t r r':List UInt8} {c:UInt8} {k:Tk} (h:nameS (t++c::r) 0=(k,0)) (hk:k.next=t.length):nameS (t++c::r') 0=(k,0):=by
 rw[←h];have hn:far isNm (t++c::r) 0=t.length:=by
  have hd:=h;unfold nameS at hd;dsimp only at hd;rw[Nat.zero_add]at hd;rw[←hk];split at hd
  ·exact congrArg (fun q=>q.1.next) hd
  ·split at hd
   ·cases hd
   ·exact congrArg (fun q=>q.1.next) hd
 have f0:far isNm (t++c::r') 0=far isNm (t++c::r) 0:=far_keep isNm (by omega) (by omega);unfold nameS;dsimp only;rw[f0,Nat.zero_add,part_same (r:=c::r) (by omega) (by omega)]
theorem signS_keep {t r r':List UInt8} {c:UInt8} {k:Tk} (ht:1≤t.length) (h:signS (t++c::r) 0=(k,0)) (hk:k.next=t.length):signS (t++c::r') 0=(k,0):=by
 rw[←h];obtain⟨x,u,rfl⟩:∃ x u,t=x::u:=by
  cases t with
  | nil=>simp at ht
  | cons x u=>exact⟨x,u,rfl⟩
 have hg:∀ q,(x::u++q).getD 0 0=x:=fun q=>rfl
 unfold signS at h ⊢
 rw[hg]at h ⊢
 rw[hg];by_cases h2:twos.contains (part (x::u++c::r) 0 (0+2))=true
 ·rw[if_pos h2]at h;have hn:2=(x::u).length:=by rw[←hk,←congrArg (fun q=>q.1.next) h]
  rw[part_same (r:=c::r) (by omega) (by omega),if_pos h2]
 ·rw[if_neg h2]at h;by_cases h1:ones.contains x=true
  ·rw[if_pos h1]at h;have hn:1=(x::u).length:=by rw[←hk,←congrArg (fun q=>q.1.next) h]
   have hu:u=[]:=by
    rw[List.length_cons]at hn;exact List.length_eq_zero_iff.1 (by omega)
   subst hu;have hp:part ([x]++c::r') 0 (0+2)=[x,c]:=rfl;have hp2:part ([x]++c::r) 0 (0+2)=[x,c]:=rfl;rw[hp,hp2]
  ·rw[if_neg h1]at h;cases h
theorem readR_keep {t r r':List UInt8} {c:UInt8} {k:Tk} (ht:1≤t.length) (h:readR (t++c::r)=(k,0)) (hk:k.next=t.length):readR (t++c::r')=(k,0):=by
 have hg:(t++c::r').getD 0 0=(t++c::r).getD 0 0:=by
  cases t with
  | nil=>simp at ht
  | cons x u=>rfl
 unfold readR at h ⊢
 rw[hg];split at h
 ·rename_i h1;rw[if_pos h1];exact numS_keep h hk
 ·rename_i h1;rw[if_neg h1];split at h
  ·rename_i h2;rw[if_pos h2];exact nameS_keep h hk
  ·rename_i h2;rw[if_neg h2];split at h
   ·rename_i h3;rw[if_pos h3];exact strS_same (r:=c::r) ht h hk
   ·rename_i h3;rw[if_neg h3];exact signS_keep ht h hk
theorem while_all (p:UInt8→Bool):∀ l:List UInt8,(l.takeWhile p).all p=true
 | []=>rfl
 | x::l=>by
  rw[List.takeWhile_cons];by_cases h:p x=true
  ·rw[if_pos h,List.all_cons,h,while_all p l];rfl
  ·rw[if_neg h];rfl
theorem to_of_all {l:List UInt8}:∀ f b,b≤l.length→l.length - b<f→(allS l f b).2.2=0→TokTo (l.drop b) ((allS l f b).1.map Tk.te)
 | f+1,b,hb,hf,h=>by
  have h0:(tokS l b).2=0:=by
   apply Classical.byContradiction
   intro hne;rw[allS_err hne]at h;exact hne h
  rcases tok_cases hb h0 with ⟨h1,h2⟩|⟨h1,h2⟩
  ·rw[allS_end h0 (by rw[h2])];refine .nil ?_;rw[List.all_eq_true];intro x hx;obtain⟨i,hi,rfl⟩:=List.getElem_of_mem hx;rw[List.length_drop]at hi;have:=far_each isBl (l:=l) (a:=b) (k:=b+i) (by omega) (by omega) hb;rw[List.getElem_drop];rwa [List.getD_eq_getElem?_getD,List.getElem?_eq_getElem (by omega)]at this
  ·have e1:=allS_go (f:=f) [] h0 h2.kind;rw[preT_nil]at e1;have hlt:=h2.lt;have hle:=h2.le;have hr:=tok_rel (l:=l) (b:=b) rfl h1;have hq0:(allS l f (tokS l b).1.next).2.2=0:=by
    apply Classical.byContradiction
    intro hne;rw[e1,preT_err _ hne]at h;exact hne h
   have ih:=to_of_all f (tokS l b).1.next hle (by omega) hq0
   rw[e1];unfold preT;rw[if_neg (by simpa using hq0)];show TokTo _ (([]++[(tokS l b).1]++(allS l f (tokS l b).1.next).1).map Tk.te)
   simp only[List.nil_append,List.singleton_append,List.map_cons];obtain⟨hr1,hr2⟩:=hr;have ht:=hr2 h0;generalize hR:readR (l.drop (b+far isBl l b))=R at *;obtain⟨k,z⟩:=R;have hz:z=0:=hr1.symm.trans h0;subst hz;have hnk:(tokS l b).1.next=k.next+(b+far isBl l b):=by rw[ht];rfl
   have e2:l.drop b=part l b (b+far isBl l b)++(part l (b+far isBl l b) (tokS l b).1.next++l.drop (tokS l b).1.next):=by
    rw[←drop_part (by omega),←drop_part (by omega)]
   have e3:(tokS l b).1.te=k.te:=by rw[ht];rfl
   have hpl:(part l (b+far isBl l b) (tokS l b).1.next).length=(tokS l b).1.next - (b+far isBl l b):=by
    unfold part;rw[List.length_take,List.length_drop];omega
   rw[e2,e3];refine .cons ?_ (by rw[hpl];omega) ?_ (by rw[←drop_part (by omega)];exact hR) (by rw[hpl];omega) ih
   ·have e5:part l b (b+far isBl l b)=(l.drop b).takeWhile isBl:=by
     unfold part far;rw[Nat.add_sub_cancel_left];exact(List.prefix_iff_eq_take.1 (List.takeWhile_prefix isBl)).symm
    rw[e5];exact while_all isBl _
   ·have:=far_next isBl h1;have e4:(part l (b+far isBl l b) (tokS l b).1.next).getD 0 0=l.getD (b+far isBl l b) 0:=by
     unfold part;rw[List.getD_eq_getElem?_getD,List.getD_eq_getElem?_getD,List.getElem?_take,if_pos (by omega),List.getElem?_drop,Nat.add_zero]
    rw[e4];exact this
/-- a text with a closing bracket behind it -/
theorem TokTo.shut {d:List UInt8} {ts:List Te} (h:TokTo d ts):TokTo (d++[41]) (ts++[⟨6,0,0,[41]⟩]):=by
 induction h with
 | @nil l hb=>exact TokTo.cons (bl:=l) (w:=[41]) (r:=[]) (k:=⟨6,0,1,0,0,[41]⟩) hb (by decide) (by decide) rfl rfl (.nil rfl)
 | @cons bl w r k ts hb hw hn hk hx _ ih =>
  rw[List.append_assoc,List.append_assoc];refine TokTo.cons hb hw hn ?_ hx ih;cases r with
  | nil=>exact readR_same' (c:=41) (r:=[]) (r':=[]) (by decide) (fun _ x=>by simp[twos]) hw hk hx
  | cons c r=>exact readR_keep (r:=r) hw hk hx
theorem TokTo.open {d:List UInt8} {ts:List Te} (h:TokTo d ts):TokTo (40::d) (⟨6,0,0,[40]⟩::ts):=by
 have hk:readR ([40]++d)=(⟨6,0,1,0,0,[40]⟩,0):=by
  show readR (40::d)=_;unfold readR;rw[show(40::d).getD 0 0=(40:UInt8) from rfl,if_neg (by decide),if_neg (by decide),if_neg (by decide)];show signS ([40]++d) 0=_;unfold signS;have hp:twos.contains (part ([40]++d) 0 (0+2))=false:=by
   cases d with
   | nil=>rfl
   | cons c d=>show twos.contains [40,c]=false;simp[twos]
  rw[hp,if_neg (by decide)];rfl
 exact TokTo.cons (bl:=[]) (w:=[40]) (k:=⟨6,0,1,0,0,[40]⟩) rfl (by decide) (by decide) hk rfl h
end Go.Proofs.YtaaaaggmhjhkkaaGreatDoor
