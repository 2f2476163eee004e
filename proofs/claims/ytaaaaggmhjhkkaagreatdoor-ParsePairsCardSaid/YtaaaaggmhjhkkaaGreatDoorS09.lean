/-
  Kc, Nc, Nf in one text.
-/
import Derived.Test.YtaaaaggmhjhkkaaGreatDoorS08
namespace Go.Proofs.YtaaaaggmhjhkkaaGreatDoor
section
open Go.RowKit
def nextS (l:List UInt8) (i:Int):Tk × Int :=
 if i<0∨(l.length:Int)<i∨2000<l.length then(noTk,3)
 else if (tokS l i.toNat).2=0 then tokS l i.toNat else(noTk,(tokS l i.toNat).2)
end
section
open Go
theorem far_run (p:UInt8→Bool):∀ (d r:List UInt8),d.all p=true→(∀ c q,r=c::q→p c=false)→((d++r).takeWhile p).length=d.length
 | [],r,_,h=>by
  rw[List.nil_append];cases r with
  | nil=>rfl
  | cons c q=>rw[List.takeWhile_cons,if_neg (by rw[h c q rfl];decide)]
 | c::d,r,hd,h=>by
  rw[List.all_cons,Bool.and_eq_true]at hd;rw[List.cons_append,List.takeWhile_cons,if_pos hd.1,List.length_cons,far_run p d r hd.2 h,List.length_cons]
theorem far_at (p:UInt8→Bool) {b d r:List UInt8} (hd:d.all p=true) (h:∀ c q,r=c::q→p c=false):far p (b++(d++r)) b.length=d.length:=by
 unfold far;rw[List.drop_left];exact far_run p d r hd h
theorem far_at0 (p:UInt8→Bool) {d r:List UInt8} (hd:d.all p=true) (h:∀ c q,r=c::q→p c=false):far p (d++r) 0=d.length:=by
 have:=far_at p (b:=[]) hd h;simpa using this
theorem far_all (p:UInt8→Bool) {d:List UInt8} (hd:d.all p=true):far p d 0=d.length:=by
 have:=far_at0 p (r:=[]) hd (fun c q h=>by cases h)
 simpa using this
theorem part_all0 (l:List UInt8):part l 0 l.length=l:=by
 unfold part;rw[List.drop_zero,Nat.sub_zero,List.take_length]
theorem next_zero {l r:List UInt8} {c:UInt8} (hl:l.length≤2000) (h:l=c::r) (hb:isBl c=false) :
  nextS l 0=if (if isDig c then numS l 0 else if isLet c then nameS l 0 else if c=34 then strS l 0 else signS l 0).2=0 then(if isDig c then numS l 0 else if isLet c then nameS l 0 else if c=34 then strS l 0 else signS l 0) else(noTk,(if isDig c then numS l 0 else if isLet c then nameS l 0 else if c=34 then strS l 0 else signS l 0).2):=by
 have h0:0<l.length:=by rw[h];simp
 have hg:l.getD 0 0=c:=by rw[h];rfl
 have hf:far isBl l 0=0:=far_stop isBl h0 (by rw[hg];exact hb);have ht:tokS l 0=if isDig c then numS l 0 else if isLet c then nameS l 0 else if c=34 then strS l 0 else signS l 0:=by
  unfold tokS;dsimp only;rw[hf,if_neg (by omega),hg]
 unfold nextS;rw[if_neg (by omega),Int.toNat_zero,ht]
theorem next_int (n:Nat) (hn:n<9223372036854775808):nextS (Lib.decDigits n) 0=(⟨2,0,(Lib.decDigits n).length,n,0,[]⟩,0):=by
 obtain⟨c,r,hc,hd⟩:=dec_head n;obtain⟨h1,h2,h3⟩:=dec_spec n;have hlen:=dec_short 18 n (by have h19:(10:Nat) ^ 19=10000000000000000000:=(by decide);omega);have hnum:numS (Lib.decDigits n) 0=(⟨2,0,(Lib.decDigits n).length,n,0,[]⟩,0):=by
  unfold numS;dsimp only;rw[far_all isDig h1,Nat.zero_add,List.getElem?_eq_none (Nat.le_refl _),if_neg (by simp),part_all0,h2,if_neg (by omega)]
 rw[next_zero (by omega) hc (dig_bl hd),if_pos hd,hnum];rfl
theorem numS_text {d ds:List UInt8} (neg:Bool) (h1:d.all isDig=true) (h3:ds.all isDig=true) (h4:1≤ds.length) :
  numS (d++112::((if neg then [45] else [])++ds)) 0=(⟨3,0,(d++112::((if neg then [45] else [])++ds)).length,0,(parseB (d++112::((if neg then [45] else [])++ds))).1,[]⟩,(parseB (d++112::((if neg then [45] else [])++ds))).2):=by
 generalize hl:d++112::((if neg then [45] else [])++ds)=l
 have hf:far isDig l 0=d.length:=by
  rw[←hl];exact far_at0 isDig h1 (fun c q h=>by cases h;decide)
 have h112:l[0+d.length]?=some 112:=by
  rw[←hl,Nat.zero_add,List.getElem?_append_right (Nat.le_refl _),Nat.sub_self];rfl
 obtain⟨x,xs,hx⟩:∃ x xs,ds=x::xs:=by
  cases ds with
  | nil=>simp at h4
  | cons x xs=>exact⟨x,xs,rfl⟩
 have hxd:isDig x=true:=by rw[hx,List.all_cons,Bool.and_eq_true]at h3;exact h3.1
 have hk:∃ b,l=b++(ds++[])∧(if l[0+d.length+1]?=some 45 then 0+d.length+2 else 0+d.length+1)=b.length:=by
  cases neg
  ·refine⟨d++[112],by rw[←hl];simp,?_⟩;have:l[0+d.length+1]?=some x:=by
    rw[←hl,Nat.zero_add,List.getElem?_append_right (by omega),hx,show d.length+1 - d.length=1 by omega];rfl
   rw[this,if_neg (by intro e;cases e;exact absurd hxd (by decide))]
   simp
  ·refine⟨d++[112,45],by rw[←hl];simp,?_⟩;have:l[0+d.length+1]?=some 45:=by
    rw[←hl,Nat.zero_add,List.getElem?_append_right (by omega),show d.length+1 - d.length=1 by omega];rfl
   rw[this,if_pos rfl];simp
 obtain⟨b,hb1,hb2⟩:=hk;have hfk:far isDig l b.length=ds.length:=by
  conv=>lhs;rw[hb1]
  exact far_at isDig h3 (fun c q h=>by cases h)
 have hlb:b.length+ds.length=l.length:=by rw[hb1];simp
 unfold numS;dsimp only;rw[hf,if_pos h112,hb2,hfk,if_neg (by omega),hlb,part_all0]
theorem itoa_form (e:Int):Lib.itoa e=(if decide (e<0) then [45] else [])++Lib.decDigits e.natAbs:=by
 by_cases h:e<0
 ·unfold Lib.itoa;rw[if_pos h,decide_eq_true h];rfl
 ·unfold Lib.itoa;rw[if_neg h,decide_eq_false h];show _=[]++_;rw[List.nil_append];congr 1
  omega
/-- what may be a name -/
def nameB (l:List UInt8):Bool:=decide (1≤l.length∧l.length≤30)&&isLet (l.getD 0 0)&&l.all isNm
theorem next_name {l:List UInt8} (h:nameB l=true) (h1:l≠[110,97,110]) (h2:l≠[105,110,102]):nextS l 0=(⟨5,0,l.length,0,0,l⟩,0):=by
 unfold nameB at h;simp only[Bool.and_eq_true,decide_eq_true_eq]at h;obtain⟨⟨⟨h3,h4⟩,h5⟩,h6⟩:=h;obtain⟨c,r,hc⟩:∃ c r,l=c::r:=by
  cases l with
  | nil=>simp at h3
  | cons c r=>exact⟨c,r,rfl⟩
 have hg:l.getD 0 0=c:=by rw[hc];rfl
 rw[hg]at h5;obtain⟨hb,hd,h34⟩:=let_bl h5;have hn:nameS l 0=(⟨5,0,l.length,0,0,l⟩,0):=by
  unfold nameS;dsimp only;rw[far_all isNm h6,Nat.zero_add,part_all0,if_neg (by rintro(e|e)<;>contradiction),if_neg (by omega)]
 rw[next_zero (by omega) hc hb,if_neg (show ¬ isDig c=true by rw[hd];decide),if_pos h5,hn];rfl
theorem marks_esc_all:∀ (l:List UInt8),inMarks (l.flatMap escB++[34])=.ok (l,(l.flatMap escB).length+1)
 | []=>rfl
 | c::l=>by
  have ih:=marks_esc_all l;rw[List.flatMap_cons,List.append_assoc];unfold escB;by_cases h:c=34∨c=92
  ·rw[if_pos h];show inMarks (92::c::(l.flatMap escB++[34]))=_;rw[inMarks.eq_def];dsimp only;rw[if_neg (by decide),if_pos rfl,if_pos h,ih];dsimp only;congr 2
  ·rw[if_neg h];show inMarks (c::(l.flatMap escB++[34]))=_;rw[inMarks.eq_def];dsimp only;rw[if_neg (fun e=>h (.inl e)),if_neg (fun e=>h (.inr e)),ih];dsimp only;congr 2
end
section
open Go
def shiftT (a:Nat) (k:Tk):Tk:={ k with pos:=k.pos+a,next:=k.next+a }
/-- the same reading, the text cut off ahead -/
def RelT (a:Nat) (r r0:Tk × Int):Prop:=r.2=r0.2∧(r.2=0→r.1=shiftT a r0.1)
theorem far_drop (p:UInt8→Bool) (l:List UInt8) (a j:Nat):far p l (a+j)=far p (l.drop a) j:=by
 unfold far;rw[List.drop_drop]
theorem part_drop (l:List UInt8) (a i j:Nat):part l (a+i) (a+j)=part (l.drop a) i j:=by
 unfold part;rw[List.drop_drop];congr 1;omega
theorem get_drop (l:List UInt8) (a j:Nat):l[a+j]?=(l.drop a)[j]?:=by
 rw[List.getElem?_drop]
theorem getD_drop (l:List UInt8) (a:Nat):l.getD a 0=(l.drop a).getD 0 0:=by
 rw[List.getD_eq_getElem?_getD,List.getD_eq_getElem?_getD,←get_drop,Nat.add_zero]
theorem numS_rel (l:List UInt8) (a:Nat):RelT a (numS l a) (numS (l.drop a) 0):=by
 have h1:far isDig l a=far isDig (l.drop a) 0:=far_drop isDig l a 0;unfold numS;dsimp only;rw[h1,Nat.zero_add];generalize far isDig (l.drop a) 0=n;rw[get_drop l a n,Nat.add_assoc a n 1,get_drop l a (n+1)];by_cases hp:(l.drop a)[n]?=some 112
 ·rw[if_pos hp,if_pos hp];by_cases hm:(l.drop a)[n+1]?=some 45
  ·rw[if_pos hm,if_pos hm,Nat.add_assoc a n 2,far_drop isDig l a (n+2)];by_cases hz:far isDig (l.drop a) (n+2)=0
   ·rw[if_pos hz,if_pos hz];exact⟨rfl,fun h=>by cases h⟩
   ·rw[if_neg hz,if_neg hz];have h2:=part_drop l a 0 (n+2+far isDig (l.drop a) (n+2));rw[Nat.add_zero,←Nat.add_assoc]at h2;rw[h2];refine⟨rfl,fun _=>?_⟩;simp[shiftT];omega
  ·rw[if_neg hm,if_neg hm,far_drop isDig l a (n+1)];by_cases hz:far isDig (l.drop a) (n+1)=0
   ·rw[if_pos hz,if_pos hz];exact⟨rfl,fun h=>by cases h⟩
   ·rw[if_neg hz,if_neg hz];have h2:=part_drop l a 0 (n+1+far isDig (l.drop a) (n+1));rw[Nat.add_zero,←Nat.add_assoc]at h2;rw[h2];refine⟨rfl,fun _=>?_⟩;simp[shiftT];omega
 ·rw[if_neg hp,if_neg hp];have h2:=part_drop l a 0 n;rw[Nat.add_zero]at h2;rw[h2];by_cases hc:19<n∨9223372036854775808≤decVal (part (l.drop a) 0 n)
  ·rw[if_pos hc,if_pos hc];exact⟨rfl,fun h=>by cases h⟩
  ·rw[if_neg hc,if_neg hc];refine⟨rfl,fun _=>?_⟩;simp[shiftT];omega
theorem nameS_rel (l:List UInt8) (a:Nat):RelT a (nameS l a) (nameS (l.drop a) 0):=by
 have h1:far isNm l a=far isNm (l.drop a) 0:=far_drop isNm l a 0;unfold nameS;dsimp only;rw[h1,Nat.zero_add];generalize far isNm (l.drop a) 0=n;have h2:=part_drop l a 0 n;rw[Nat.add_zero]at h2;rw[h2];split
 ·refine⟨rfl,fun _=>?_⟩;simp[shiftT];omega
 ·split
  ·exact⟨rfl,fun h=>by cases h⟩
  ·refine⟨rfl,fun _=>?_⟩;simp[shiftT];omega
theorem strS_rel (l:List UInt8) (a:Nat):RelT a (strS l a) (strS (l.drop a) 0):=by
 unfold strS;rw[List.drop_drop,show a+(0+1)=a+1 by omega];cases hm:inMarks (l.drop (a+1)) with
 | error e =>
  refine⟨rfl,fun h=>?_⟩;dsimp only at h;rw[h]at hm;exact absurd hm (marks_no0 _ _ (Nat.le_refl _))
 | ok x =>
  dsimp only;split
  ·exact⟨rfl,fun h=>by cases h⟩
  ·refine⟨rfl,fun _=>?_⟩;simp[shiftT];omega
theorem signS_rel (l:List UInt8) (a:Nat):RelT a (signS l a) (signS (l.drop a) 0):=by
 unfold signS;have h2:=part_drop l a 0 2;rw[Nat.add_zero]at h2;rw[h2,getD_drop l a,Nat.zero_add];split
 ·refine⟨rfl,fun _=>?_⟩;simp[shiftT];omega
 ·split
  ·refine⟨rfl,fun _=>?_⟩;simp[shiftT];omega
  ·exact⟨rfl,fun h=>by cases h⟩
/-- the token at a text's very beginning -/
def readR (d:List UInt8):Tk × Int :=
 if isDig (d.getD 0 0) then numS d 0 else if isLet (d.getD 0 0) then nameS d 0 else if d.getD 0 0=34 then strS d 0 else signS d 0
theorem tok_rel {l:List UInt8} {b a:Nat} (hab:a=b+far isBl l b) (ha:a<l.length):RelT a (tokS l b) (readR (l.drop a)):=by
 have e:tokS l b=if isDig (l.getD a 0) then numS l a else if isLet (l.getD a 0) then nameS l a else if l.getD a 0=34 then strS l a else signS l a:=by
  unfold tokS;dsimp only;rw[←hab,if_neg (by omega)]
 rw[e,getD_drop l a];unfold readR;split
 ·exact numS_rel l a
 ·split
  ·exact nameS_rel l a
  ·split
   ·exact strS_rel l a
   ·exact signS_rel l a
/-! what stands behind -/
theorem take_app (p:UInt8→Bool):∀ (u r r':List UInt8) (c:UInt8),p c=false→((u++r).takeWhile p).length≤u.length→((u++c::r').takeWhile p).length=((u++r).takeWhile p).length
 | [],r,r',c,hc,h=>by
  rw[List.nil_append]at h ⊢
  rw[List.nil_append,List.takeWhile_cons,if_neg (by rw[hc];decide)];simp at h ⊢
  rw[h];rfl
 | x::u,r,r',c,hc,h=>by
  rw[List.cons_append,List.takeWhile_cons]at h;rw[List.cons_append,List.cons_append,List.takeWhile_cons,List.takeWhile_cons];by_cases hx:p x=true
  ·rw[if_pos hx]at h ⊢
   rw[if_pos hx,List.length_cons,List.length_cons,take_app p u r r' c hc (by simpa using h)]
  ·rw[if_neg hx,if_neg hx]
theorem far_same (p:UInt8→Bool) {t r r':List UInt8} {c:UInt8} {a:Nat} (hc:p c=false) (ha:a≤t.length) (h:a+far p (t++r) a≤t.length):far p (t++c::r') a=far p (t++r) a:=by
 unfold far at h ⊢
 rw[List.drop_append_of_le_length ha]at h ⊢
 rw[List.drop_append_of_le_length ha];exact take_app p _ r r' c hc (by rw[List.length_drop];omega)
theorem get_same {t r r':List UInt8} {i:Nat} (h:i<t.length):(t++r')[i]?=(t++r)[i]?:=by
 rw[List.getElem?_append_left h,List.getElem?_append_left h]
theorem part_same {t r r':List UInt8} {a e:Nat} (h:e≤t.length) (ha:a≤e):part (t++r') a e=part (t++r) a e:=by
 unfold part;rw[List.drop_append_of_le_length (by omega),List.drop_append_of_le_length (by omega)];rw[List.take_append_of_le_length (by rw[List.length_drop];omega),List.take_append_of_le_length (by rw[List.length_drop];omega)]
theorem marks_same:∀ (m:Nat) (q:List UInt8),q.length≤m→∀ w n,inMarks q=.ok (w,n)→∀ x,inMarks (q.take n++x)=.ok (w,n)
 | 0,q,hq,w,n,h,x=>by
  have:q=[]:=List.length_eq_zero_iff.1 (by omega);subst this;cases h
 | m+1,q,hq,w,n,h,x=>by
  rcases q with _|⟨c,r⟩
  ·cases h
  ·rw[inMarks.eq_def]at h;dsimp only at h;by_cases h1:c=34
   ·rw[if_pos h1]at h;cases h
    subst h1;show inMarks (34::x)=_;rw[inMarks.eq_def];rfl
   ·rw[if_neg h1]at h;by_cases h2:c=92
    ·rw[if_pos h2]at h;rcases r with _|⟨d,q⟩
     ·cases h
     ·dsimp only at h;by_cases h3:d=34∨d=92
      ·rw[if_pos h3]at h;cases hm:inMarks q with
       | error e=>rw[hm]at h;cases h
       | ok y =>
        rw[hm]at h;cases h
        have ih:=marks_same m q (by simp at hq;omega) y.1 y.2 hm x;show inMarks (c::d::(q.take y.2++x))=_;rw[inMarks.eq_def];dsimp only;rw[if_neg h1,if_pos h2,if_pos h3,ih]
      ·rw[if_neg h3]at h;cases h
    ·rw[if_neg h2]at h;cases hm:inMarks r with
     | error e=>rw[hm]at h;cases h
     | ok y =>
      rw[hm]at h;cases h
      have ih:=marks_same m r (by simp at hq;omega) y.1 y.2 hm x;show inMarks (c::(r.take y.2++x))=_;rw[inMarks.eq_def];dsimp only;rw[if_neg h1,if_neg h2,ih]
theorem strS_same {t r r':List UInt8} {k:Tk} (ht:1≤t.length) (h:strS (t++r) 0=(k,0)) (hk:k.next=t.length):strS (t++r') 0=(k,0):=by
 rw[←h];obtain⟨x,u,rfl⟩:∃ x u,t=x::u:=by
  cases t with
  | nil=>simp at ht
  | cons x u=>exact⟨x,u,rfl⟩
 unfold strS at h ⊢
 rw[show(x::u++r).drop (0+1)=u++r from rfl]at h ⊢
 rw[show(x::u++r').drop (0+1)=u++r' from rfl];cases hm:inMarks (u++r) with
 | error e =>
  rw[hm]at h;dsimp only at h;have he:e=0:=congrArg Prod.snd h;rw[he]at hm;exact absurd hm (marks_no0 _ _ (Nat.le_refl _))
 | ok y =>
  obtain⟨w,n⟩:=y;rw[hm]at h;dsimp only at h;have hn:n=u.length:=by
   split at h
   ·cases h
   ·have:=congrArg (fun q=>q.1.next) h
    dsimp only at this;rw[hk,List.length_cons]at this;omega
  have:=marks_same _ (u++r) (Nat.le_refl _) w n hm r';rw[hn,List.take_left]at this;rw[this,hn]
end
end Go.Proofs.YtaaaaggmhjhkkaaGreatDoor
