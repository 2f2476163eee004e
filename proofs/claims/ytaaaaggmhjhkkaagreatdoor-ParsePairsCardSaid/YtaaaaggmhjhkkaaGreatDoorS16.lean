/-
  E2, E3, E4, E5, E1 in one text.
-/
import Derived.Test.YtaaaaggmhjhkkaaGreatDoorS09
import Derived.Test.YtaaaaggmhjhkkaaGreatDoorS14
namespace Go.Proofs.YtaaaaggmhjhkkaaGreatDoor
section
open Go
theorem nm_not {c:UInt8} (h:isNm c=false):isDig c=false∧c≠112:=by
 unfold isNm at h;simp only[Bool.or_eq_false_iff]at h;refine⟨h.1.2,?_⟩;rintro rfl;exact absurd h.1.1 (by decide)
theorem signS_kind {d:List UInt8} {k:Tk} (h:signS d 0=(k,0)):k.kind=6:=by
 unfold signS at h;split at h
 ·cases h;rfl
 ·split at h
  ·cases h;rfl
  ·cases h
theorem numS_same' {t r r':List UInt8} {c:UInt8} {k:Tk} (hc:isNm c=false) (h:numS (t++r) 0=(k,0)) (hk:k.next=t.length):numS (t++c::r') 0=(k,0):=by
 obtain⟨c1,c3⟩:=nm_not hc;rw[←h];have hd:=h;unfold numS at hd ⊢
 dsimp only at hd ⊢
 rw[Nat.zero_add]at hd;rw[Nat.zero_add,Nat.zero_add];by_cases hp:(t++r)[far isDig (t++r) 0]?=some 112
 ·rw[if_pos hp]at hd;by_cases hm:(t++r)[far isDig (t++r) 0+1]?=some 45
  ·rw[if_pos hm]at hd;by_cases hz:far isDig (t++r) (far isDig (t++r) 0+2)=0
   ·rw[if_pos hz]at hd;cases hd
   ·rw[if_neg hz]at hd;have hn:far isDig (t++r) 0+2+far isDig (t++r) (far isDig (t++r) 0+2)=t.length:=by rw[←hk,←congrArg (fun q=>q.1.next) hd]
    have f0:far isDig (t++c::r') 0=far isDig (t++r) 0:=far_same isDig c1 (by omega) (by omega);rw[f0,get_same (r:=r) (by omega),if_pos hp,get_same (r:=r) (by omega),if_pos hm];have f2:far isDig (t++c::r') (far isDig (t++r) 0+2)=far isDig (t++r) (far isDig (t++r) 0+2):=far_same isDig c1 (by omega) (by omega);rw[f2,part_same (r:=r) (by omega) (by omega),if_pos hp]
  ·rw[if_neg hm]at hd;by_cases hz:far isDig (t++r) (far isDig (t++r) 0+1)=0
   ·rw[if_pos hz]at hd;cases hd
   ·rw[if_neg hz]at hd;have hn:far isDig (t++r) 0+1+far isDig (t++r) (far isDig (t++r) 0+1)=t.length:=by rw[←hk,←congrArg (fun q=>q.1.next) hd]
    have f0:far isDig (t++c::r') 0=far isDig (t++r) 0:=far_same isDig c1 (by omega) (by omega);rw[f0,get_same (r:=r) (by omega),if_pos hp,get_same (r:=r) (by omega),if_neg hm];have f2:far isDig (t++c::r') (far isDig (t++r) 0+1)=far isDig (t++r) (far isDig (t++r) 0+1):=far_same isDig c1 (by omega) (by omega);rw[f2,part_same (r:=r) (by omega) (by omega),if_pos hp]
 ·rw[if_neg hp]at hd;by_cases hcd:19<far isDig (t++r) 0∨9223372036854775808≤decVal (part (t++r) 0 (far isDig (t++r) 0))
  ·rw[if_pos hcd]at hd;cases hd
  ·rw[if_neg hcd]at hd;have hn:far isDig (t++r) 0=t.length:=by rw[←hk,←congrArg (fun q=>q.1.next) hd]
   have f0:far isDig (t++c::r') 0=far isDig (t++r) 0:=far_same isDig c1 (by omega) (by omega);have hg:¬ (t++c::r')[far isDig (t++r) 0]?=some 112:=by
    rw[hn,List.getElem?_append_right (Nat.le_refl _),Nat.sub_self];intro e;exact c3 (Option.some.inj e)
   rw[f0,if_neg hg,part_same (r:=r) (by omega) (by omega),if_neg hp]
theorem nameS_same' {t r r':List UInt8} {c:UInt8} {k:Tk} (hc:isNm c=false) (h:nameS (t++r) 0=(k,0)) (hk:k.next=t.length):nameS (t++c::r') 0=(k,0):=by
 have c1:=hc;rw[←h];have hn:far isNm (t++r) 0=t.length:=by
  have hd:=h;unfold nameS at hd;dsimp only at hd;rw[Nat.zero_add]at hd;rw[←hk];split at hd
  ·exact congrArg (fun q=>q.1.next) hd
  ·split at hd
   ·cases hd
   ·exact congrArg (fun q=>q.1.next) hd
 have f0:far isNm (t++c::r') 0=far isNm (t++r) 0:=far_same isNm c1 (by omega) (by omega);unfold nameS;dsimp only;rw[f0,Nat.zero_add,part_same (r:=r) (by omega) (by omega)]
theorem signS_same' {t r r':List UInt8} {c:UInt8} {k:Tk} (c4:∀ x,twos.contains [x,c]=false) (ht:1≤t.length) (h:signS (t++r) 0=(k,0)) (hk:k.next=t.length):signS (t++c::r') 0=(k,0):=by
 rw[←h];obtain⟨x,u,rfl⟩:∃ x u,t=x::u:=by
  cases t with
  | nil=>simp at ht
  | cons x u=>exact⟨x,u,rfl⟩
 have hg:∀ q,(x::u++q).getD 0 0=x:=fun q=>rfl
 unfold signS at h ⊢
 rw[hg]at h ⊢
 rw[hg];by_cases h2:twos.contains (part (x::u++r) 0 (0+2))=true
 ·rw[if_pos h2]at h;have hn:2=(x::u).length:=by rw[←hk,←congrArg (fun q=>q.1.next) h]
  rw[part_same (r:=r) (by omega) (by omega),if_pos h2]
 ·rw[if_neg h2]at h;by_cases h1:ones.contains x=true
  ·rw[if_pos h1]at h;have hn:1=(x::u).length:=by rw[←hk,←congrArg (fun q=>q.1.next) h]
   have hu:u=[]:=by
    rw[List.length_cons]at hn;exact List.length_eq_zero_iff.1 (by omega)
   subst hu;have hp:part ([x]++c::r') 0 (0+2)=[x,c]:=rfl;rw[hp,c4 x,if_neg h2,if_pos h1];rfl
  ·rw[if_neg h1]at h;cases h
theorem readR_same' {t r r':List UInt8} {c:UInt8} {k:Tk} (hc:isNm c=false) (c4:k.kind=6→∀ x,twos.contains [x,c]=false) (ht:1≤t.length) (h:readR (t++r)=(k,0)) (hk:k.next=t.length):readR (t++c::r')=(k,0):=by
 have hg:(t++c::r').getD 0 0=(t++r).getD 0 0:=by
  cases t with
  | nil=>simp at ht
  | cons x u=>rfl
 unfold readR at h ⊢
 rw[hg];split at h
 ·rename_i h1;rw[if_pos h1];exact numS_same' hc h hk
 ·rename_i h1;rw[if_neg h1];split at h
  ·rename_i h2;rw[if_pos h2];exact nameS_same' hc h hk
  ·rename_i h2;rw[if_neg h2];split at h
   ·rename_i h3;rw[if_pos h3];exact strS_same ht h hk
   ·rename_i h3;rw[if_neg h3];exact signS_same' (c4 (signS_kind h)) ht h hk
end
section
open Go
/-- the tokens of a text, wherever they stand -/
inductive TokTo:List UInt8→List Te→Prop
 | nil {l:List UInt8} (h:l.all isBl=true):TokTo l []
 | cons {bl w r:List UInt8} {k:Tk} {ts:List Te} (hb:bl.all isBl=true) (hw:1≤w.length) (hn:isBl (w.getD 0 0)=false) (hk:readR (w++r)=(k,0)) (hx:k.next=w.length) (h:TokTo r ts):TokTo (bl++(w++r)) (k.te::ts)
theorem far_all_bl {l:List UInt8} {b:Nat} (hb:b≤l.length) (h:(l.drop b).all isBl=true):b+far isBl l b=l.length:=by
 have e:far isBl l b=(l.drop b).length:=by
  have:=far_run isBl (l.drop b) [] h (fun _ _ h=>nomatch h);rw[List.append_nil]at this;exact this
 rw[e,List.length_drop];omega
theorem all_of_to {l:List UInt8} {d:List UInt8} {ts:List Te} (h:TokTo d ts):∀ f b,b≤l.length→d=l.drop b→l.length - b<f→(allS l f b).2.2=0∧(allS l f b).1.map Tk.te=ts:=by
 induction h with
 | nil hb =>
  rintro f b hbl rfl hf;obtain⟨f,rfl⟩:∃ g,f=g+1:=⟨f - 1,by omega⟩;have hfar:=far_all_bl hbl hb;have ht:tokS l b=(⟨1,l.length,l.length,0,0,[]⟩,0):=by
   unfold tokS;dsimp only;rw[hfar,if_pos rfl]
  rw[allS_end (by rw[ht]) (by rw[ht])];exact⟨rfl,rfl⟩
 | @cons bl w r k ts hb hw hn hk hx _ ih =>
  rintro f b hbl he hf;obtain⟨f,rfl⟩:∃ g,f=g+1:=⟨f - 1,by omega⟩;have hlen:=congrArg List.length he;simp only[List.length_append,List.length_drop]at hlen;obtain⟨c,u,rfl⟩:∃ c u,w=c::u:=by
   cases w with
   | nil=>simp at hw
   | cons c u=>exact⟨c,u,rfl⟩
  have hfar:far isBl l b=bl.length:=by
   unfold far;rw[←he];exact far_run isBl bl _ hb (fun c' q hq=>by cases hq;exact hn)
  have ha:b+far isBl l b<l.length:=by rw[hfar];simp at hlen;omega
  have hd:l.drop (b+bl.length)=c::u++r:=by
   rw[←List.drop_drop,←he,List.drop_left]
  have hr:=tok_rel (l:=l) (b:=b) rfl ha;rw[hfar,hd,hk]at hr;obtain⟨hr1,hr2⟩:=hr;have ht:=hr2 hr1;have hg:(tokS l b).1.kind≠1:=by
   rcases tok_cases hbl hr1 with ⟨h1,_⟩|⟨_,h2⟩
   ·omega
   ·exact h2.kind
  have hnx:(tokS l b).1.next=b+bl.length+(c::u).length:=by rw[ht];show k.next+_=_;rw[hx];omega
  have e1:=allS_go (f:=f) [] hr1 hg;rw[preT_nil,hnx]at e1;have hi:=ih f (b+bl.length+(c::u).length) (by omega) (by rw[←List.drop_drop,hd,List.drop_left]) (by omega);generalize allS l f (b+bl.length+(c::u).length)=q at *;obtain⟨h1,h2⟩:=hi;rw[e1];unfold preT;rw[if_neg (by simpa using h1)];refine⟨h1,?_⟩;show([]++[(tokS l b).1]++q.1).map Tk.te=_;rw[ht];simp only[List.nil_append,List.singleton_append,List.map_cons,h2];rfl
end
section
open Go
def sgT (s:List UInt8):Te:=⟨6,0,0,s⟩
def nmT (s:List UInt8):Te:=⟨5,0,0,s⟩
/-- a constant's token -/
def tokC (v:VT):Te :=
 if v.kind=1 then nmT (if v.num=0 then [102,97,108,115,101] else [116,114,117,101])
 else if v.kind=2 then⟨2,v.num,0,[]⟩
 else if v.kind=3 then⟨3,0,canon v.flt,[]⟩
 else⟨4,0,0,v.str⟩
def rowK (named:Bool):Bool→List (List UInt8)→List (List Te)→List Te
 | _,_,[]=>[]
 | fst,ns,t::ts=>(if fst then [] else [sgT [44]])++((if named then [nmT (ns.headD []),sgT [58]] else [])++(t++rowK named false ns.tail ts))
def firstK (k:Int) (t:List Te):List Te:=if k=1 then sgT [40]::(t++[sgT [41]]) else t
mutual
def toksE:ET→List Te
 | .mk k s v ns ks =>
  let ts:=toksEL ks
  if k=1 then [tokC v]
  else if k=2 then [nmT s]
  else if k=3 then [sgT [40],sgT [45]]++ts.getD 0 []++[sgT [41]]
  else if k=4 then [sgT [40],sgT [33]]++ts.getD 0 []++[sgT [41]]
  else if k=15 then [sgT [40]]++ts.getD 0 []++[sgT [63]]++ts.getD 1 []++[sgT [58]]++ts.getD 2 []++[sgT [41]]
  else if k=16 then [sgT [91]]++rowK false true ns ts++[sgT [93]]
  else if k=17 then [sgT [123]]++rowK true true ns ts++[sgT [125]]
  else if k=18 then firstK (ks.getD 0 noET).kind (ts.getD 0 [])++[sgT [46]]++[nmT s]
  else if k=19 then firstK (ks.getD 0 noET).kind (ts.getD 0 [])++[sgT [91]]++ts.getD 1 []++[sgT [93]]
  else if 20≤k∧k≤23 then [nmT (callsB.getD (k - 20).toNat [])]++[sgT [40]]++ts.getD 0 []++[sgT [41]]
  else [sgT [40]]++ts.getD 0 []++[sgT (signsB.getD (k - 5).toNat [])]++ts.getD 1 []++[sgT [41]]
def toksEL:List ET→List (List Te)
 | []=>[]
 | x::xs=>toksE x::toksEL xs
end
/-- no name goes on there -/
def FolN (r:List UInt8):Prop:=∀ c q,r=c::q→isNm c=false
/-- a text that is read as these tokens, whatever stands behind it that is no part of a name -/
def ReadsT (w:List UInt8) (ts:List Te):Prop:=∀ r rs,FolN r→TokTo r rs→TokTo (w++r) (ts++rs)
theorem FolN.sign {c:UInt8} {q:List UInt8} (h:isNm c=false):FolN (c::q):=fun _ _ e=>by cases e;exact h
theorem ReadsT.nil:ReadsT [] []:=fun _ _ _ h=>h
theorem ReadsT.app {a b:List UInt8} {s t:List Te} (h1:ReadsT a s) (h2:ReadsT b t) (hb:∀ r,FolN r→FolN (b++r)):ReadsT (a++b) (s++t):=by
 intro r rs hr h;rw[List.append_assoc,List.append_assoc];exact h1 _ _ (hb r hr) (h2 _ _ hr h)
/-- a token alone -/
theorem ReadsT.one {w:List UInt8} {k:Tk} (hw:1≤w.length) (hn:isBl (w.getD 0 0)=false) (hk:readR w=(k,0)) (hx:k.next=w.length) (h6:k.kind≠6):ReadsT w [k.te]:=by
 intro r rs hr h;refine TokTo.cons (bl:=[]) rfl hw hn ?_ hx h;cases r with
 | nil=>rw[List.append_nil];exact hk
 | cons c q=>exact readR_same' (r:=[]) (hr c q rfl) (fun e=>absurd e h6) hw (by rw[List.append_nil];exact hk) hx
theorem readR_sign {c:UInt8} {r:List UInt8} (h1:isDig c=false) (h2:isLet c=false) (h3:c≠34):readR (c::r)=signS (c::r) 0:=by
 unfold readR;rw[show(c::r).getD 0 0=c from rfl,h1,h2,if_neg (by decide),if_neg (by decide),if_neg h3]
/-- a sign of one byte -/
theorem sign1 {c:UInt8} (hc:ones.contains c=true) {r:List UInt8} {rs:List Te} (hr:∀ d q,r=d::q→twos.contains [c,d]=false) (h:TokTo r rs):TokTo (c::r) (sgT [c]::rs):=by
 have hp:twos.contains (part (c::r) 0 (0+2))=false:=by
  cases r with
  | nil=>show twos.contains [c]=false;simp[twos]
  | cons d q=>exact hr d q rfl
 have hc2:isDig c=false∧isLet c=false∧c≠34∧isBl c=false:=by
  simp only[ones,List.contains_eq_mem,List.mem_cons,List.not_mem_nil,or_false,decide_eq_true_eq]at hc;rcases hc with rfl|rfl|rfl|rfl|rfl|rfl|rfl|rfl|rfl|rfl|rfl|rfl|rfl|rfl|rfl|rfl|rfl<;>decide
 have hk:readR ([c]++r)=(⟨6,0,1,0,0,[c]⟩,0):=by
  show readR (c::r)=_;rw[readR_sign hc2.1 hc2.2.1 hc2.2.2.1];unfold signS;rw[hp,if_neg (by decide),show(c::r).getD 0 0=c from rfl,if_pos hc]
 exact TokTo.cons (bl:=[]) (w:=[c]) (k:=⟨6,0,1,0,0,[c]⟩) rfl (by simp) hc2.2.2.2 hk rfl h
/-- a sign of two bytes -/
theorem sign2 {c d:UInt8} (hc:twos.contains [c,d]=true) {r:List UInt8} {rs:List Te} (h:TokTo r rs):TokTo (c::d::r) (sgT [c,d]::rs):=by
 have hc2:isDig c=false∧isLet c=false∧c≠34∧isBl c=false:=by
  simp only[twos,List.contains_eq_mem,List.mem_cons,List.not_mem_nil,or_false,decide_eq_true_eq,List.cons.injEq,and_true]at hc;rcases hc with ⟨rfl,_⟩|⟨rfl,_⟩|⟨rfl,_⟩|⟨rfl,_⟩<;>decide
 have hk:readR ([c,d]++r)=(⟨6,0,2,0,0,[c,d]⟩,0):=by
  show readR (c::d::r)=_;rw[readR_sign hc2.1 hc2.2.1 hc2.2.2.1];unfold signS;rw[show part (c::d::r) 0 (0+2)=[c,d] from rfl,hc,if_pos rfl]
 exact TokTo.cons (bl:=[]) (w:=[c,d]) (k:=⟨6,0,2,0,0,[c,d]⟩) rfl (by simp) hc2.2.2.2 hk rfl h
/-- signs that are no beginning of another one -/
def lone (c:UInt8):Bool:=ones.contains c&&(c != 60)
theorem lone_sign {c:UInt8} (hc:lone c=true) {r:List UInt8} {rs:List Te} (h:TokTo r rs):TokTo (c::r) (sgT [c]::rs):=by
 unfold lone at hc;simp only[Bool.and_eq_true,bne_iff_ne,ne_eq]at hc;refine sign1 hc.1 (fun d q _=>?_) h;have hc1:=hc.1;simp only[ones,List.contains_eq_mem,List.mem_cons,List.not_mem_nil,or_false,decide_eq_true_eq]at hc1;have hc2:=hc.2;rcases hc1 with rfl|rfl|rfl|rfl|rfl|rfl|rfl|rfl|rfl|rfl|rfl|rfl|rfl|rfl|rfl|rfl|rfl<;>first|(exact absurd rfl hc2)|simp[twos]
theorem ReadsT.sign {c:UInt8} (hc:lone c=true):ReadsT [c] [sgT [c]]:=fun _ _ _ h=>lone_sign hc h
theorem readR_next {l:List UInt8} {k:Tk} (hl:l.length≤2000) (h1:1≤l.length) (hb:isBl (l.getD 0 0)=false) (h:nextS l 0=(k,0)):readR l=(k,0):=by
 obtain⟨c,r,hc⟩:∃ c r,l=c::r:=by
  cases l with
  | nil=>simp at h1
  | cons c r=>exact⟨c,r,rfl⟩
 have hg:l.getD 0 0=c:=by rw[hc];rfl
 rw[hg]at hb;have e:=next_zero hl hc hb;rw[h]at e;have e2:readR l=(if isDig c then numS l 0 else if isLet c then nameS l 0 else if c=34 then strS l 0 else signS l 0):=by
  unfold readR;rw[hg]
 rw[e2];generalize (if isDig c then numS l 0 else if isLet c then nameS l 0 else if c=34 then strS l 0 else signS l 0)=q at *
 by_cases hq:q.2=0
 ·rw[if_pos hq]at e;exact e.symm
 ·rw[if_neg hq]at e;exact absurd (congrArg Prod.snd e).symm hq
/-- a name -/
theorem ReadsT.name {l:List UInt8} (h:nmB l=true) (h1:l≠[110,97,110]) (h2:l≠[105,110,102]):ReadsT l [nmT l]:=by
 have hn:=next_name (l:=l) h h1 h2;have h3:=h;unfold nmB at h3;simp only[Bool.and_eq_true,decide_eq_true_eq]at h3;have hb:=(let_bl h3.1.2).1;exact ReadsT.one (k:=⟨5,0,l.length,0,0,l⟩) h3.1.1.1 hb (readR_next (by omega) h3.1.1.1 hb hn) rfl (by show(5:Int)≠6;decide)
theorem next_float' {f:Nat} (hf:F64 f) (hl:(textB f).length≤2000) (h:(textB f).getD 0 0≠45):nextS (textB f) 0=(⟨3,0,(textB f).length,0,canon f,[]⟩,0):=by
 have hp:=parse_text hf;have hnum:∀ (n:Nat) (e:Int),textB f=Lib.decDigits n++112::Lib.itoa e→nextS (textB f) 0=(⟨3,0,(textB f).length,0,canon f,[]⟩,0):=by
  intro n e h;obtain⟨c,r,hc,hd⟩:=dec_head n;have hl2:textB f=c::(r++112::Lib.itoa e):=by rw[h,hc];rfl
  have hn:=numS_text (d:=Lib.decDigits n) (ds:=Lib.decDigits e.natAbs) (decide (e<0)) (dec_spec n).1 (dec_spec _).1 (dec_spec _).2.2;rw[←itoa_form,←h,hp]at hn;rw[next_zero hl hl2 (dig_bl hd),if_pos hd,hn];rfl
 by_cases hn:Fl.isNaN f=true
 ·have h1:textB f=[110,97,110]:=by unfold textB;rw[hn];rfl
  have hnm:nameS [110,97,110] 0=(⟨3,0,3,0,(parseB [110,97,110]).1,[]⟩,0):=by rfl
  rw[h1]at hp hl ⊢
  rw[next_zero hl rfl (by rfl),if_neg (show ¬ isDig 110=true by decide),if_pos (show isLet 110=true from rfl),hnm,hp];rfl
 ·have hn':Fl.isNaN f=false:=by simpa using hn
  have hng:Fl.ng f=false:=by
   cases hg:Fl.ng f
   ·rfl
   ·exfalso
    apply h
    unfold textB;rw[hn',hg];rfl
  by_cases hi:Fl.rg f=9218868437227405312
  ·have h1:textB f=[105,110,102]:=by unfold textB;rw[hn',hng,if_pos hi];rfl
   have hnm:nameS [105,110,102] 0=(⟨3,0,3,0,(parseB [105,110,102]).1,[]⟩,0):=by rfl
   rw[h1]at hp hl ⊢
   rw[next_zero hl rfl (by rfl),if_neg (show ¬ isDig 105=true by decide),if_pos (show isLet 105=true from rfl),hnm,hp];rfl
  ·by_cases h0:Fl.rg f=0
   ·have e0:Lib.decDigits 0=[48]:=by rw[Lib.decDigits];rfl
    have e1:Lib.itoa 0=[48]:=by unfold Lib.itoa;rw[if_neg (by omega),show(0:Int).toNat=0 from rfl,e0]
    have h1:textB f=Lib.decDigits 0++112::Lib.itoa 0:=by
     unfold textB;rw[hn',hng,if_neg hi,if_pos h0,e0,e1];rfl
    exact hnum _ _ h1
   ·have h1:textB f=Lib.decDigits (txtN (Fl.rg f))++112::Lib.itoa (txtE (Fl.rg f)):=by
     unfold textB;rw[hn',hng,if_neg hi,if_neg h0];rfl
    exact hnum _ _ h1
theorem ReadsT.pre {c:UInt8} (hc:lone c=true) {b:List UInt8} {s:List Te} (h:ReadsT b s):ReadsT (c::b) (sgT [c]::s):=fun r rs hr h1=>lone_sign hc (h r rs hr h1)
theorem ReadsT.mid {c:UInt8} (hc:lone c=true) {a b:List UInt8} {s t:List Te} (h1:ReadsT a s) (h2:ReadsT b t):ReadsT (a++c::b) (s++sgT [c]::t):=by
 intro r rs hr h;have hn:isNm c=false:=by
  unfold lone at hc;simp only[Bool.and_eq_true,bne_iff_ne,ne_eq]at hc;have hc1:=hc.1;simp only[ones,List.contains_eq_mem,List.mem_cons,List.not_mem_nil,or_false,decide_eq_true_eq]at hc1;rcases hc1 with rfl|rfl|rfl|rfl|rfl|rfl|rfl|rfl|rfl|rfl|rfl|rfl|rfl|rfl|rfl|rfl|rfl<;>decide
 have:=h1 _ _ (FolN.sign hn) (lone_sign hc (h2 r rs hr h));simpa using this
theorem ReadsT.mid2 {c d:UInt8} (hc:twos.contains [c,d]=true) {a b:List UInt8} {s t:List Te} (h1:ReadsT a s) (h2:ReadsT b t):ReadsT (a++c::d::b) (s++sgT [c,d]::t):=by
 intro r rs hr h;have hn:isNm c=false:=by
  simp only[twos,List.contains_eq_mem,List.mem_cons,List.not_mem_nil,or_false,decide_eq_true_eq,List.cons.injEq,and_true]at hc;rcases hc with ⟨rfl,_⟩|⟨rfl,_⟩|⟨rfl,_⟩|⟨rfl,_⟩<;>decide
 have:=h1 _ _ (FolN.sign hn) (sign2 hc (h2 r rs hr h));simpa using this
def HeadOk (w:List UInt8):Prop:=∃ c q,w=c::q∧c≠61
theorem ReadsT.less {a b:List UInt8} {s t:List Te} (h1:ReadsT a s) (h2:ReadsT b t) (hh:HeadOk b):ReadsT (a++60::b) (s++sgT [60]::t):=by
 intro r rs hr h;obtain⟨c,q,rfl,hc⟩:=hh;have h3:TokTo (60::(c::q++r)) (sgT [60]::(t++rs)):=sign1 (by decide) (fun d u e=>by cases e;simp[twos,hc]) (h2 r rs hr h)
 have:=h1 _ _ (FolN.sign (by decide)) h3;simpa using this
theorem HeadOk.app {a b:List UInt8} (h:HeadOk a):HeadOk (a++b):=by
 obtain⟨c,q,rfl,hc⟩:=h;exact⟨c,q++b,rfl,hc⟩
theorem HeadOk.cons {c:UInt8} {b:List UInt8} (h:c≠61):HeadOk (c::b):=⟨c,b,rfl,h⟩
end
section
open Go
theorem nm_blank {l:List UInt8} (h:nmB l=true):HeadOk l:=by
 have h3:=h;unfold nmB at h3;simp only[Bool.and_eq_true,decide_eq_true_eq]at h3;cases l with
 | nil=>simp at h3
 | cons c q=>exact HeadOk.cons (by rintro rfl;exact absurd (show isLet 61=true from h3.1.2) (by decide))
theorem quote_tok (l:List UInt8) (hl:l.length≤200):readR (quoteB l)=(⟨4,0,(quoteB l).length,0,0,l⟩,0):=by
 have e:(quoteB l).drop (0+1)=l.flatMap escB++[34]:=rfl;have hs:strS (quoteB l) 0=(⟨4,0,0+1+((l.flatMap escB).length+1),0,0,l⟩,0):=by
  unfold strS;rw[e,marks_esc_all];dsimp only;rw[if_neg (by omega)]
 have hq:(quoteB l).length=0+1+((l.flatMap escB).length+1):=by
  unfold quoteB;simp;omega
 unfold readR;have hg:(quoteB l).getD 0 0=34:=rfl;rw[hg,if_neg (show ¬ isDig 34=true by decide),if_neg (show ¬ isLet 34=true by decide),if_pos rfl,hs,hq]
theorem reads_const {v:VT} (hi:inV v) (h:constB v=true):ReadsT (textC v) [tokC v]∧HeadOk (textC v):=by
 obtain⟨k,n,f,s,ns,its⟩:=v;obtain⟨_,hn,hf,_⟩:=hi;replace h:(if k=1∨k=4 then rightB (.mk k n f s ns its) else if k=2 then rightB (.mk k n f s ns its)&&decide (0≤n) else if k=3 then rightB (.mk k n f s ns its)&&decide (0≤ordB f 0) else false)=true:=h
 have e1:textC (.mk k n f s ns its)=(if k=1 then(if n=0 then [102,97,108,115,101] else [116,114,117,101]) else if k=2 then Lib.itoa n else if k=3 then textB f else quoteB s):=rfl
 have e2:tokC (.mk k n f s ns its)=(if k=1 then nmT (if n=0 then [102,97,108,115,101] else [116,114,117,101]) else if k=2 then⟨2,n,0,[]⟩ else if k=3 then⟨3,0,canon f,[]⟩ else⟨4,0,0,s⟩):=rfl
 rw[e1,e2];clear e1 e2;by_cases h1:k=1
 ·subst h1;rw[if_pos rfl,if_pos rfl];by_cases h0:n=0
  ·rw[if_pos h0];exact⟨ReadsT.name (by decide) (by decide) (by decide),HeadOk.cons (by decide)⟩
  ·rw[if_neg h0];exact⟨ReadsT.name (by decide) (by decide) (by decide),HeadOk.cons (by decide)⟩
 ·rw[if_neg h1,if_neg h1];by_cases h2:k=2
  ·subst h2;rw[if_pos rfl,if_pos rfl];rw[if_neg (by omega),if_pos rfl]at h;simp only[Bool.and_eq_true,decide_eq_true_eq]at h;obtain⟨m,rfl⟩:=Int.eq_ofNat_of_zero_le h.2;have e:Lib.itoa (m:Int)=Lib.decDigits m:=by rw[itoa_form,decide_eq_false (by omega)];rfl
   obtain⟨c,r,hc,hd⟩:=dec_head m;have hx:=next_int m (by omega);have hl:=dec_short 19 m (by omega);rw[e];refine⟨ReadsT.one (k:=⟨2,0,(Lib.decDigits m).length,m,0,[]⟩) (by rw[hc];simp) (by rw[hc];exact dig_bl hd) (readR_next (by omega) (by rw[hc];simp) (by rw[hc];exact dig_bl hd) hx) rfl (by first|decide|(show(2:Int)≠6;decide)|(show(3:Int)≠6;decide)),?_⟩
   rw[hc];exact HeadOk.cons (nlet_head (.inl hd)).2.1
  ·rw[if_neg h2,if_neg h2];by_cases h3:k=3
   ·subst h3;rw[if_pos rfl,if_pos rfl];rw[if_neg (by omega),if_neg (by omega),if_pos rfl]at h;simp only[Bool.and_eq_true,decide_eq_true_eq]at h;obtain⟨c,q,hc,hd⟩:=text_head h.2;obtain⟨e1,e2,e3⟩:=nlet_head hd;have hx:=next_float' (f:=f) hf (Nat.le_trans textB_len1 (by omega)) (by rw[hc];exact e3);refine⟨ReadsT.one (k:=⟨3,0,(textB f).length,0,canon f,[]⟩) (by rw[hc];simp) (by rw[hc];exact e1) (readR_next (Nat.le_trans textB_len1 (by omega)) (by rw[hc];simp) (by rw[hc];exact e1) hx) rfl (by first|decide|(show(2:Int)≠6;decide)|(show(3:Int)≠6;decide)),?_⟩
    rw[hc];exact HeadOk.cons e2
   ·rw[if_neg h3,if_neg h3];have h4:k=4:=by
     by_cases h4:k=4
     ·exact h4
     ·rw[if_neg (by omega),if_neg h2,if_neg h3]at h;cases h
    subst h4;rw[if_pos (.inr rfl)]at h;have hs:s.length≤200:=by
     unfold rightB at h;simp only[Bool.and_eq_true,decide_eq_true_eq]at h;have:=h.2;rw[rightV]at this;simp at this;exact this.2
    exact⟨ReadsT.one (k:=⟨4,0,(quoteB s).length,0,0,s⟩) (by unfold quoteB;simp) (by show isBl 34=false;decide) (quote_tok s hs) rfl (by show(4:Int)≠6;decide),HeadOk.cons (by decide)⟩
theorem textEL_length:∀ l:List ET,(textEL l).length=l.length
 | []=>rfl
 | x::xs=>by rw[textEL,List.length_cons,List.length_cons,textEL_length xs]
theorem toksEL_length:∀ l:List ET,(toksEL l).length=l.length
 | []=>rfl
 | x::xs=>by rw[toksEL,List.length_cons,List.length_cons,toksEL_length xs]
/-- texts that are read as these tokens, one by one -/
def ReadsL:List (List UInt8)→List (List Te)→Prop
 | [],[]=>True
 | w::ws,t::ts=>(ReadsT w t∧HeadOk w)∧ReadsL ws ts
 | _,_=>False
theorem lone_nm {c:UInt8} (hc:lone c=true):isNm c=false:=by
 unfold lone at hc;simp only[Bool.and_eq_true,bne_iff_ne,ne_eq]at hc;have hc1:=hc.1;simp only[ones,List.contains_eq_mem,List.mem_cons,List.not_mem_nil,or_false,decide_eq_true_eq]at hc1;rcases hc1 with rfl|rfl|rfl|rfl|rfl|rfl|rfl|rfl|rfl|rfl|rfl|rfl|rfl|rfl|rfl|rfl|rfl<;>decide
/-- a row up to its closing sign -/
theorem reads_row {named:Bool} {z:UInt8} (hz:lone z=true):∀ (ws:List (List UInt8)) (ts:List (List Te)) (ns:List (List UInt8)) (fst:Bool),ReadsL ws ts→(named=true→ns.length=ws.length∧∀ a ∈ ns,fieldB a=true) →
  ∀ r rs,TokTo r rs→(∃ c q,rowJ named fst ns ws++z::r=c::q∧(fst=false→isNm c=false))∧TokTo (rowJ named fst ns ws++z::r) (rowK named fst ns ts++sgT [z]::rs)
 | [],[],ns,fst,_,_,r,rs,h=>⟨⟨z,r,rfl,fun _=>lone_nm hz⟩,lone_sign hz h⟩
 | w::ws,t::ts,ns,fst,hr,hn,r,rs,h=>by
  have hn2:named=true→ns.tail.length=ws.length∧∀ a ∈ ns.tail,fieldB a=true:=by
   intro e;obtain⟨h1,h2⟩:=hn e;refine⟨by rw[List.length_tail,h1];rfl,fun a ha=>h2 a (List.mem_of_mem_tail ha)⟩
  obtain⟨⟨c,q,hc,hcn⟩,ih⟩:=reads_row hz ws ts ns.tail false hr.2 hn2 r rs h;have h1:TokTo (w++(rowJ named false ns.tail ws++z::r)) (t++(rowK named false ns.tail ts++sgT [z]::rs)) :=
   hr.1.1 _ _ (fun c' q' e=>by rw[hc]at e;cases e;exact hcn rfl) ih
  have h2:TokTo ((if named then ns.headD []++[58] else [])++(w++(rowJ named false ns.tail ws++z::r))) ((if named then [nmT (ns.headD []),sgT [58]] else [])++(t++(rowK named false ns.tail ts++sgT [z]::rs))):=by
   cases named with
   | false=>exact h1
   | true =>
    obtain⟨h3,h4⟩:=hn rfl;obtain⟨a,l,rfl⟩:∃ a l,ns=a::l:=by
     cases ns with
     | nil=>simp at h3
     | cons a l=>exact⟨a,l,rfl⟩
    have h5:=h4 a (by simp);unfold fieldB at h5;simp only[Bool.and_eq_true,bne_iff_ne,ne_eq]at h5;have:=ReadsT.name h5.1.1 h5.1.2 h5.2 _ _ (FolN.sign (c:=58) (by decide)) (lone_sign (c:=58) (by decide) h1);simpa using this
  cases fst with
  | true =>
   refine⟨?_,?_⟩
   ·obtain⟨c,q,hw,_⟩:=hr.1.2;cases named with
    | false=>exact⟨c,_,by rw[rowJ,hw];simp;rfl,fun e=>by cases e⟩
    | true =>
     cases hns:ns.headD [] with
     | nil=>exact⟨58,_,by rw[rowJ,hns];simp;rfl,fun e=>by cases e⟩
     | cons a l=>exact⟨a,_,by rw[rowJ,hns];simp;rfl,fun e=>by cases e⟩
   ·rw[rowJ,rowK];simpa using h2
  | false =>
   refine⟨⟨44,_,by rw[rowJ];simp;rfl,fun _=>by decide⟩,?_⟩;have:=lone_sign (c:=44) (by decide) h2;rw[rowJ,rowK];simpa using this
 | [],_::_,_,_,h,_,_,_,_=>h.elim
 | _::_,[],_,_,h,_,_,_,_=>h.elim
theorem word_not {s:List UInt8} (h:wordS s=false):s≠[110,97,110]∧s≠[105,110,102]∧s≠[116,114,117,101]∧s≠[102,97,108,115,101]∧callsB.contains s=false:=by
 refine⟨?_,?_,?_,?_,?_⟩
 ·rintro rfl;exact absurd h (by decide)
 ·rintro rfl;exact absurd h (by decide)
 ·rintro rfl;exact absurd h (by decide)
 ·rintro rfl;exact absurd h (by decide)
 ·unfold wordS at h;simp only[Bool.or_eq_false_iff,beq_eq_false_iff_ne]at h;simp only[callsB,List.contains_eq_mem,List.mem_cons,List.not_mem_nil,or_false,decide_eq_false_iff_not,not_or];exact⟨h.1.1.1.2,h.1.1.2,h.1.2,h.2⟩
theorem reads_first {k:Int} {w:List UInt8} {t:List Te} (h:ReadsT w t) (hh:HeadOk w):ReadsT (firstT k w) (firstK k t)∧HeadOk (firstT k w):=by
 unfold firstT firstK;by_cases hk:k=1
 ·rw[if_pos hk,if_pos hk];exact⟨ReadsT.pre (by decide) (ReadsT.mid (b:=[]) (t:=[]) (by decide) h ReadsT.nil),HeadOk.cons (by decide)⟩
 ·rw[if_neg hk,if_neg hk];exact⟨h,hh⟩
theorem ReadsL.at:∀ {a:List (List UInt8)} {b:List (List Te)},ReadsL a b→∀ i,i<a.length→ReadsT (a.getD i []) (b.getD i [])∧HeadOk (a.getD i [])
 | _::_,_::_,h,0,_=>h.1
 | _::_,_::_,h,i+1,hi=>h.2.at i (by simpa using hi)
 | [],[],_,_,hi=>by simp at hi
 | [],_::_,h,_,_=>h.elim
 | _::_,[],h,_,_=>h.elim
theorem signs_cases {k:Int} (h1:5≤k) (h2:k≤14) {a b:List UInt8} {s t:List Te} (ha:ReadsT a s) (hb:ReadsT b t) (hh:HeadOk b):ReadsT (a++(signsB.getD (k - 5).toNat []++b)) (s++sgT (signsB.getD (k - 5).toNat [])::t):=by
 have hk:k=5∨k=6∨k=7∨k=8∨k=9∨k=10∨k=11∨k=12∨k=13∨k=14:=by omega
 rcases hk with rfl|rfl|rfl|rfl|rfl|rfl|rfl|rfl|rfl|rfl
 ·exact ReadsT.mid (c:=43) (by decide) ha hb
 ·exact ReadsT.mid (c:=45) (by decide) ha hb
 ·exact ReadsT.mid (c:=42) (by decide) ha hb
 ·exact ReadsT.mid (c:=47) (by decide) ha hb
 ·exact ReadsT.mid (c:=37) (by decide) ha hb
 ·exact ReadsT.mid2 (c:=61) (d:=61) (by decide) ha hb
 ·exact ReadsT.less ha hb hh
 ·exact ReadsT.mid2 (c:=60) (d:=61) (by decide) ha hb
 ·exact ReadsT.mid2 (c:=38) (d:=38) (by decide) ha hb
 ·exact ReadsT.mid2 (c:=124) (d:=124) (by decide) ha hb
theorem calls_name {k:Int} (h1:20≤k) (h2:k≤23):ReadsT (callsB.getD (k - 20).toNat []) [nmT (callsB.getD (k - 20).toNat [])]∧HeadOk (callsB.getD (k - 20).toNat []):=by
 have hk:k=20∨k=21∨k=22∨k=23:=by omega
 rcases hk with rfl|rfl|rfl|rfl<;>exact⟨ReadsT.name (by decide) (by decide) (by decide),HeadOk.cons (by decide)⟩
mutual
theorem reads_E:∀ (x:ET) (far:Nat),rightE x far=true→inE x→ReadsT (textE x) (toksE x)∧HeadOk (textE x)
 | .mk k s v ns ks,far,h,hi=>by
  rw[rightE]at h;split at h
  ·cases h
  ·simp only[Bool.and_eq_true,decide_eq_true_eq]at h;obtain⟨⟨⟨⟨h1,h2⟩,h3⟩,h4⟩,h5⟩:=h;have hL:=reads_EL ks _ h5 hi.2;have hlen:=textEL_length ks;have hA:=fun i (hi:i<ks.length)=>hL.at i (by rw[hlen];exact hi)
   rw[textE,toksE];rcases wants_cases h1 with ⟨hw,hk⟩|⟨hw,hk⟩|⟨hw,hk⟩|⟨hw,hk⟩|⟨hw,hk⟩
   ·rcases hk with rfl|rfl
    ·rw[if_pos rfl,if_pos rfl];exact reads_const hi.1 h4
    ·rw[if_neg (by decide),if_pos rfl,if_neg (by decide),if_pos rfl];unfold namedE at h3;rw[if_pos rfl]at h3;simp only[Bool.and_eq_true,Bool.not_eq_true']at h3;obtain⟨e1,e2,_⟩:=word_not h3.1.1;exact⟨ReadsT.name h3.1.2 e1 e2,nm_blank h3.1.2⟩
   ·have hl:ks.length=1:=by rw[hw]at h2;omega
    obtain⟨r0,d0⟩:=hA 0 (by omega);rcases hk with rfl|rfl|rfl|⟨k1,k2⟩
    ·simp only[show ¬ ((3:Int)=1) by decide,show ¬ ((3:Int)=2) by decide,if_false,if_true];exact⟨by simpa using ReadsT.pre (c:=40) (by decide) (ReadsT.pre (c:=45) (by decide) (ReadsT.mid (c:=41) (b:=[]) (t:=[]) (by decide) r0 ReadsT.nil)),HeadOk.cons (by decide)⟩
    ·simp only[show ¬ ((4:Int)=1) by decide,show ¬ ((4:Int)=2) by decide,show ¬ ((4:Int)=3) by decide,if_false,if_true];exact⟨by simpa using ReadsT.pre (c:=40) (by decide) (ReadsT.pre (c:=33) (by decide) (ReadsT.mid (c:=41) (b:=[]) (t:=[]) (by decide) r0 ReadsT.nil)),HeadOk.cons (by decide)⟩
    ·simp only[show ¬ ((18:Int)=1) by decide,show ¬ ((18:Int)=2) by decide,show ¬ ((18:Int)=3) by decide,show ¬ ((18:Int)=4) by decide,show ¬ ((18:Int)=15) by decide,show ¬ ((18:Int)=16) by decide,show ¬ ((18:Int)=17) by decide,if_false,if_true];unfold namedE at h3;rw[if_neg (by decide),if_pos rfl]at h3;simp only[Bool.and_eq_true]at h3;obtain⟨e0,e1,e2⟩:=field_nm h3.1;obtain⟨f1,f2⟩:=reads_first (k:=(ks.getD 0 noET).kind) r0 d0;exact⟨by simpa using ReadsT.mid (c:=46) (by decide) f1 (ReadsT.name e0 e1 e2),by rw[List.append_assoc];exact f2.app⟩
    ·obtain⟨f1,f2⟩:=calls_name k1 k2;rw[if_neg (by omega),if_neg (by omega),if_neg (by omega),if_neg (by omega),if_neg (by omega),if_neg (by omega),if_neg (by omega),if_neg (by omega),if_neg (by omega),if_pos ⟨k1,k2⟩];rw[if_neg (by omega),if_neg (by omega),if_neg (by omega),if_neg (by omega),if_neg (by omega),if_neg (by omega),if_neg (by omega),if_neg (by omega),if_neg (by omega),if_pos ⟨k1,k2⟩];exact⟨by simpa using ReadsT.mid (c:=40) (by decide) f1 (ReadsT.mid (c:=41) (b:=[]) (t:=[]) (by decide) r0 ReadsT.nil),by rw[List.append_assoc,List.append_assoc];exact f2.app⟩
   ·have hl:ks.length=2:=by rw[hw]at h2;omega
    obtain⟨r0,d0⟩:=hA 0 (by omega);obtain⟨r1,d1⟩:=hA 1 (by omega);rcases hk with ⟨k1,k2⟩|rfl
    ·rw[if_neg (by omega),if_neg (by omega),if_neg (by omega),if_neg (by omega),if_neg (by omega),if_neg (by omega),if_neg (by omega),if_neg (by omega),if_neg (by omega),if_neg (by omega)];rw[if_neg (by omega),if_neg (by omega),if_neg (by omega),if_neg (by omega),if_neg (by omega),if_neg (by omega),if_neg (by omega),if_neg (by omega),if_neg (by omega),if_neg (by omega)];have:=ReadsT.pre (c:=40) (by decide) (signs_cases k1 k2 r0 (ReadsT.mid (c:=41) (b:=[]) (t:=[]) (by decide) r1 ReadsT.nil) d1.app);exact⟨by simpa using this,HeadOk.cons (by decide)⟩
    ·simp only[show ¬ ((19:Int)=1) by decide,show ¬ ((19:Int)=2) by decide,show ¬ ((19:Int)=3) by decide,show ¬ ((19:Int)=4) by decide,show ¬ ((19:Int)=15) by decide,show ¬ ((19:Int)=16) by decide,show ¬ ((19:Int)=17) by decide,show ¬ ((19:Int)=18) by decide,if_false,if_true];obtain⟨f1,f2⟩:=reads_first (k:=(ks.getD 0 noET).kind) r0 d0;exact⟨by simpa using ReadsT.mid (c:=91) (by decide) f1 (ReadsT.mid (c:=93) (b:=[]) (t:=[]) (by decide) r1 ReadsT.nil),by rw[List.append_assoc,List.append_assoc];exact f2.app⟩
   ·subst hk;have hl:ks.length=3:=by rw[hw]at h2;omega
    obtain⟨r0,d0⟩:=hA 0 (by omega);obtain⟨r1,d1⟩:=hA 1 (by omega);obtain⟨r2,d2⟩:=hA 2 (by omega);simp only[show ¬ ((15:Int)=1) by decide,show ¬ ((15:Int)=2) by decide,show ¬ ((15:Int)=3) by decide,show ¬ ((15:Int)=4) by decide,if_false,if_true];exact⟨by simpa using ReadsT.pre (c:=40) (by decide) (ReadsT.mid (c:=63) (by decide) r0 (ReadsT.mid (c:=58) (by decide) r1 (ReadsT.mid (c:=41) (b:=[]) (t:=[]) (by decide) r2 ReadsT.nil))),HeadOk.cons (by decide)⟩
   ·rcases hk with rfl|rfl
    ·simp only[show ¬ ((16:Int)=1) by decide,show ¬ ((16:Int)=2) by decide,show ¬ ((16:Int)=3) by decide,show ¬ ((16:Int)=4) by decide,show ¬ ((16:Int)=15) by decide,if_false,if_true];refine⟨fun r rs _ h=>?_,HeadOk.cons (by decide)⟩;have:=lone_sign (c:=91) (by decide) (reads_row (named:=false) (z:=93) (by decide) (textEL ks) (toksEL ks) ns true hL (fun e=>by cases e) r rs h).2
     simpa using this
    ·simp only[show ¬ ((17:Int)=1) by decide,show ¬ ((17:Int)=2) by decide,show ¬ ((17:Int)=3) by decide,show ¬ ((17:Int)=4) by decide,show ¬ ((17:Int)=15) by decide,show ¬ ((17:Int)=16) by decide,if_false,if_true];unfold namedE at h3;rw[if_neg (by decide),if_neg (by decide),if_pos rfl]at h3;simp only[Bool.and_eq_true,decide_eq_true_eq]at h3;refine⟨fun r rs _ h=>?_,HeadOk.cons (by decide)⟩;have:=lone_sign (c:=123) (by decide) (reads_row (named:=true) (z:=125) (by decide) (textEL ks) (toksEL ks) ns true hL (fun _=>⟨by rw[hlen];exact h3.2,rowE_all h3.1.2⟩) r rs h).2;simpa using this
theorem reads_EL:∀ (l:List ET) (far:Nat),rightEL l far=true→inEL l→ReadsL (textEL l) (toksEL l)
 | [],_,_,_=>trivial
 | x::xs,far,h,hi=>by
  rw[rightEL,Bool.and_eq_true]at h;exact⟨reads_E x far h.1 hi.1,reads_EL xs far h.2 hi.2⟩
end
end
section
open Go
/-- a reader of expressions that eats at least one token -/
def Eats (E:List Te→PR):Prop:=∀ l x r,E l=.ok (x,r)→r.length<l.length
theorem takeS_len {sg:List (List UInt8)} {l r:List Te} {i:Nat} (h:takeS sg l=some (i,r)):r.length+1=l.length:=by
 cases l with
 | nil=>cases h
 | cons t q =>
  simp only[takeS]at h;by_cases hk:t.kind=6
  ·rw[if_pos hk]at h;cases hi:idxS sg t.str with
   | none=>rw[hi]at h;cases h
   | some j=>rw[hi]at h;cases h;rfl
  ·rw[if_neg hk]at h;cases h
theorem wantS_len {s:List UInt8} {l r:List Te} (h:wantS s l=.ok r):r.length+1=l.length:=by
 unfold wantS at h;split at h
 ·rename_i i q hq;cases h;exact takeS_len hq
 ·cases h
theorem nameT_len {l r:List Te} {s:List UInt8} (h:nameT l=.ok (s,r)):r.length+1=l.length:=by
 cases l with
 | nil=>cases h
 | cons t q =>
  simp only[nameT]at h;by_cases hk:t.kind=5
  ·rw[if_pos hk]at h;cases h;rfl
  ·rw[if_neg hk]at h;cases h
theorem postL_len {E:List Te→PR} (hE:Eats E):∀ (n:Nat) (x:ET) (l:List Te) (y:ET) (r:List Te),postL E n x l=.ok (y,r)→r.length≤l.length
 | 0,x,l,y,r,h=>by cases h;omega
 | n+1,x,l,y,r,h=>by
  rw[postL]at h;split at h
  ·cases h;omega
  ·rename_i q hq;have:=takeS_len hq;split at h
   ·cases h
   ·rename_i s r2 hn;have:=nameT_len hn;have:=postL_len hE n _ _ _ _ h;omega
  ·rename_i i q _ hq;have:=takeS_len hq;split at h
   ·cases h
   ·rename_i z r2 hz;have:=hE _ _ _ hz;split at h
    ·cases h
    ·rename_i r3 hw;have:=wantS_len hw;have:=postL_len hE n _ _ _ _ h;omega
theorem rowL_len {E:List Te→PR} (hE:Eats E):∀ (n:Nat) (xs:List ET) (l:List Te) (y:ET) (r:List Te),rowL E n xs l=.ok (y,r)→r.length≤l.length
 | 0,x,l,y,r,h=>by cases h;omega
 | n+1,xs,l,y,r,h=>by
  rw[rowL]at h;split at h
  ·cases h
  ·rename_i z q hz;have:=hE _ _ _ hz;split at h
   ·rename_i r2 hq;have:=takeS_len hq;have:=rowL_len hE n _ _ _ _ h;omega
   ·split at h
    ·cases h
    ·rename_i r2 hw;have:=wantS_len hw;cases h
     omega
theorem recL_len {E:List Te→PR} (hE:Eats E):∀ (n:Nat) (ns:List (List UInt8)) (xs:List ET) (l:List Te) (y:ET) (r:List Te),recL E n ns xs l=.ok (y,r)→r.length≤l.length
 | 0,ns,x,l,y,r,h=>by cases h;omega
 | n+1,ns,xs,l,y,r,h=>by
  rw[recL]at h;split at h
  ·cases h
  ·rename_i s q hs;have:=nameT_len hs;split at h
   ·cases h
   ·split at h
    ·cases h
    ·rename_i r2 hw;have:=wantS_len hw;split at h
     ·cases h
     ·rename_i z r3 hz;have:=hE _ _ _ hz;dsimp only at h;split at h
      ·rename_i r4 hq;have:=takeS_len hq;have:=recL_len hE n _ _ _ _ _ h;omega
      ·split at h
       ·cases h
       ·rename_i r4 hw2;have:=wantS_len hw2;cases h
        omega
theorem wordF_len {E:List Te→PR} (hE:Eats E):Eats (wordF E):=by
 intro l x r h;unfold wordF at h;split at h
 ·cases h
 ·rename_i s q hs;have:=nameT_len hs;split at h
  ·cases h;omega
  ·split at h
   ·cases h;omega
   ·split at h
    ·cases h;omega
    ·split at h
     ·cases h
     ·rename_i r2 hw;have:=wantS_len hw;split at h
      ·cases h
      ·rename_i z r3 hz;have:=hE _ _ _ hz;split at h
       ·cases h
       ·rename_i r4 hw2;have:=wantS_len hw2;cases h
        omega
theorem primF_len {E:List Te→PR} (hE:Eats E):Eats (primF E):=by
 intro l x r h;unfold primF at h;split at h
 ·rename_i q hq;have:=takeS_len hq;split at h
  ·cases h
  ·rename_i z r2 hz;have:=hE _ _ _ hz;split at h
   ·cases h
   ·rename_i r3 hw;have:=wantS_len hw;cases h
    omega
 ·rename_i q hq;have:=takeS_len hq;split at h
  ·rename_i r2 hq2;have:=takeS_len hq2;cases h
   omega
  ·have:=rowL_len hE _ _ _ _ _ h;omega
 ·rename_i q _ _ hq;have:=takeS_len hq;split at h
  ·rename_i r2 hq2;have:=takeS_len hq2;cases h
   omega
  ·have:=recL_len hE _ _ _ _ _ _ h;omega
 ·split at h
  ·cases h
  ·rename_i t q;split at h
   ·cases h;simp
   ·split at h
    ·cases h;simp
    ·split at h
     ·cases h;simp
     ·split at h
      ·exact wordF_len hE _ _ _ h
      ·cases h
theorem postF_len {E:List Te→PR} (hE:Eats E):Eats (postF E):=by
 intro l x r h;unfold postF at h;split at h
 ·cases h
 ·rename_i z q hz;have:=primF_len hE _ _ _ hz;have:=postL_len hE _ _ _ _ _ h;omega
theorem binL_len {B:List Te→PR} (hB:Eats B) (lv:Lv):∀ (n:Nat) (x:ET) (l:List Te) (y:ET) (r:List Te),binL B lv n x l=.ok (y,r)→r.length≤l.length
 | 0,x,l,y,r,h=>by cases h;omega
 | n+1,x,l,y,r,h=>by
  rw[binL]at h;split at h
  ·cases h;omega
  ·rename_i i q hq;have:=takeS_len hq;split at h
   ·cases h
   ·rename_i z r2 hz;have:=hB _ _ _ hz;split at h
    ·cases h;omega
    ·have:=binL_len hB lv n _ _ _ _ h;omega
theorem binF_len {U:List Te→PR} (hU:Eats U):∀ lvs:List Lv,Eats (binF U lvs)
 | [],l,x,r,h=>hU l x r h
 | lv::lvs,l,x,r,h=>by
  rw[binF]at h;split at h
  ·cases h
  ·rename_i z q hz;have:=binF_len hU lvs _ _ _ hz;have:=binL_len (binF_len hU lvs) lv _ _ _ _ _ h;omega
theorem unF_len {E U:List Te→PR} (hE:Eats E) (hU:Eats U):Eats (unF E U):=by
 intro l x r h;unfold unF at h;split at h
 ·rename_i q hq;have:=takeS_len hq;split at h
  ·cases h
  ·rename_i z r2 hz;have:=hU _ _ _ hz;cases h
   omega
 ·rename_i i q _ hq;have:=takeS_len hq;split at h
  ·cases h
  ·rename_i z r2 hz;have:=hU _ _ _ hz;cases h
   omega
 ·exact postF_len hE _ _ _ h
theorem exF_len {E U:List Te→PR} (hE:Eats E) (hU:Eats U):Eats (exF E U):=by
 intro l x r h;unfold exF at h;split at h
 ·cases h
 ·rename_i z q hz;have:=binF_len hU _ _ _ _ hz;split at h
  ·cases h;omega
  ·rename_i r2 hq;have:=takeS_len hq;split at h
   ·cases h
   ·rename_i y r3 hy;have:=hE _ _ _ hy;split at h
    ·cases h
    ·rename_i r4 hw;have:=wantS_len hw;split at h
     ·cases h
     ·rename_i y2 r5 hy2;have:=hE _ _ _ hy2;cases h
      omega
theorem exUn_len:∀ n:Nat,Eats (exUn n).1∧Eats (exUn n).2
 | 0=>⟨(by intro l x r h;cases h),(by intro l x r h;cases h)⟩
 | n+1=>by
  obtain⟨h1,h2⟩:=exUn_len n;exact⟨exF_len h1 h2,unF_len h1 h2⟩
/-- a row may be read as far as there are tokens -/
theorem postL_fuel {E:List Te→PR} (hE:Eats E):∀ (n m:Nat) (x:ET) (l:List Te),l.length<n→l.length<m→postL E n x l=postL E m x l
 | n+1,m+1,x,l,hn,hm=>by
  rw[postL,postL];split
  ·rfl
  ·rename_i q hq;have:=takeS_len hq;split
   ·rfl
   ·rename_i s r2 hs;have:=nameT_len hs;exact postL_fuel hE n m _ _ (by omega) (by omega)
  ·rename_i i q _ hq;have:=takeS_len hq;split
   ·rfl
   ·rename_i z r2 hz;have:=hE _ _ _ hz;split
    ·rfl
    ·rename_i r3 hw;have:=wantS_len hw;exact postL_fuel hE n m _ _ (by omega) (by omega)
end
end Go.Proofs.YtaaaaggmhjhkkaaGreatDoor
