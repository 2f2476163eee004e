/-
  E6, E7 in one text.
-/
import Derived.Test.YtaaaaggmhjhkkaaGreatDoorS10
import Derived.Test.YtaaaaggmhjhkkaaGreatDoorS16
import Derived.Test.YtaaaaggmhjhkkaaGreatDoorS21
namespace Go.Proofs.YtaaaaggmhjhkkaaGreatDoor
section
open Go
mutual
/-- an expression, its floats made canonical -/
def canE:ET→ET
 | .mk k s v ns ks=>.mk k s (canV v) ns (canEL ks)
def canEL:List ET→List ET
 | []=>[]
 | x::xs=>canE x::canEL xs
end
theorem canEL_length:∀ l:List ET,(canEL l).length=l.length
 | []=>rfl
 | x::xs=>by rw[canEL,List.length_cons,List.length_cons,canEL_length xs]
theorem none_can {v:VT} (h:noneV v=true):canV v=noVT:=by
 obtain⟨k,n,f,s,ns,its⟩:=v;simp only[noneV,bareV,VT.kind,VT.num,VT.flt,VT.str,VT.names,VT.items,Bool.false_or,Bool.and_eq_true,List.isEmpty_iff]at h;obtain⟨h0,h1,h2,h3,h4,h5⟩:=h;replace h0:k=0:=of_decide_eq_true h0;replace h1:n=0:=of_decide_eq_true h1;subst h0;subst h1;subst h3;subst h4;subst h5;have hz:canon f=0:=by simpa [zeroB] using h2
 rw[canV,hz,canL];rfl
theorem takeS_cons (sgs:List (List UInt8)) (t:Te) (r:List Te):takeS sgs (t::r)=if t.kind=6 then(match idxS sgs t.str with|some i=>some (i,r)|none=>none) else none:=rfl
theorem takeS_no {sgs:List (List UInt8)} {s:List UInt8} {q:List Te} (h:sgs.contains s=false):takeS sgs (sgT s::q)=none:=by
 have e:idxS sgs s=none:=by unfold idxS;rw[h];rfl
 rw[takeS_cons,if_pos (show(sgT s).kind=6 from rfl),show(sgT s).str=s from rfl,e]
theorem takeS_yes {sgs:List (List UInt8)} {s:List UInt8} {q:List Te} {i:Nat} (h:idxS sgs s=some i):takeS sgs (sgT s::q)=some (i,q):=by
 rw[takeS_cons,if_pos (show(sgT s).kind=6 from rfl),show(sgT s).str=s from rfl,h]
theorem wantS_yes {s:List UInt8} {q:List Te}:wantS s (sgT s::q)=.ok q:=by
 unfold wantS;rw[takeS_yes (i:=0) (by unfold idxS;rw[if_pos (by simp)];simp)]
theorem takeS_kind {sgs:List (List UInt8)} {t:Te} {q:List Te} (h:t.kind≠6):takeS sgs (t::q)=none:=by
 rw[takeS_cons,if_neg h]
/-- what an expression's tokens begin with -/
def HeadT (t:List Te):Prop:=∃ c q,t=c::q∧(c.kind≠6∨c=sgT [40]∨c=sgT [91]∨c=sgT [123])
theorem HeadT.app {t u:List Te} (h:HeadT t):HeadT (t++u):=by
 obtain⟨c,q,rfl,hc⟩:=h;exact⟨c,q++u,rfl,hc⟩
theorem HeadT.take {t:List Te} (h:HeadT t) {sgs:List (List UInt8)} (hs:sgs.contains [40]=false∧sgs.contains [91]=false∧sgs.contains [123]=false):takeS sgs t=none:=by
 obtain⟨c,q,rfl,hc|rfl|rfl|rfl⟩:=h
 ·exact takeS_kind hc
 ·exact takeS_no hs.1
 ·exact takeS_no hs.2.1
 ·exact takeS_no hs.2.2
/-- read as an expression, whatever stands behind it -/
def PostAt (n:Nat) (t:List Te) (x:ET):Prop:=∀ r,postF (exUn n).1 (t++r)=postL (exUn n).1 (r.length+1) x r
theorem post_stop {E:List Te→PR} {n:Nat} {x:ET} {r:List Te} (h:takeS [[46],[91]] r=none):postL E (n+1) x r=.ok (x,r):=by
 rw[postL,h]
theorem un_of {n:Nat} {t:List Te} {x:ET} (h:PostAt n t x) (hh:HeadT t) {r:List Te} (hr:takeS [[46],[91]] r=none):(exUn (n+1)).2 (t++r)=.ok (x,r):=by
 show unF _ _ _=_;rw[unF_n (hh.app.take (by decide)),h r,post_stop hr]
theorem bin_pass {U:List Te→PR} {l r:List Te} {x:ET} (h:U l=.ok (x,r)):∀ lvs:List Lv,(∀ lv ∈ lvs,takeS lv.signs r=none)→binF U lvs l=.ok (x,r)
 | [],_=>h
 | lv::lvs,hl=>by
  rw[binF,bin_pass h lvs (fun a ha=>hl a (by simp[ha]))];dsimp only;rw[binL,hl lv (by simp)]
theorem bin_op {U:List Te→PR} {l q r:List Te} {x y:ET} {op:List UInt8} {i:Nat} {lv:Lv} {lvs2:List Lv} (h1:binF U lvs2 l=.ok (x,sgT op::q)) (h2:takeS lv.signs (sgT op::q)=some (i,q)) (h3:binF U lvs2 q=.ok (y,r)) (h4:takeS lv.signs r=none) :
  ∀ lvs1:List Lv,(∀ a ∈ lvs1,takeS a.signs r=none)→binF U (lvs1++lv::lvs2) l=.ok (twoE (lv.kinds.getD i 0) x y,r)
 | [],_=>by
  rw[List.nil_append,binF,h1];dsimp only;rw[show(sgT op::q).length+1=(q.length+1)+1 from rfl,binL,h2];dsimp only;rw[h3];dsimp only;split
  ·rfl
  ·rw[binL,h4]
 | a::lvs1,hl=>by
  rw[List.cons_append,binF,bin_op h1 h2 h3 h4 lvs1 (fun b hb=>hl b (by simp[hb]))];dsimp only;rw[binL,hl a (by simp)]
/-- what no expression goes on with -/
def Stop (r:List Te):Prop:=∃ s q,r=sgT s::q∧(s=[41]∨s=[93]∨s=[125]∨s=[44]∨s=[58])
theorem Stop.take {r:List Te} (h:Stop r) {sgs:List (List UInt8)} (hs:sgs.contains [41]=false∧sgs.contains [93]=false∧sgs.contains [125]=false∧sgs.contains [44]=false∧sgs.contains [58]=false):takeS sgs r=none:=by
 obtain⟨s,q,rfl,rfl|rfl|rfl|rfl|rfl⟩:=h
 ·exact takeS_no hs.1
 ·exact takeS_no hs.2.1
 ·exact takeS_no hs.2.2.1
 ·exact takeS_no hs.2.2.2.1
 ·exact takeS_no hs.2.2.2.2
theorem Stop.levels {r:List Te} (h:Stop r):∀ lv ∈ levelsB,takeS lv.signs r=none:=by
 intro lv hl;simp only[levelsB,List.mem_cons,List.not_mem_nil,or_false]at hl;rcases hl with rfl|rfl|rfl|rfl|rfl<;>exact h.take (by decide)
/-- what no expression goes on with, or nothing at all -/
def Ends (r:List Te):Prop:=r=[]∨Stop r
theorem Ends.take {r:List Te} (h:Ends r) {sgs:List (List UInt8)} (hs:sgs.contains [41]=false∧sgs.contains [93]=false∧sgs.contains [125]=false∧sgs.contains [44]=false∧sgs.contains [58]=false):takeS sgs r=none:=by
 rcases h with rfl|h
 ·rfl
 ·exact h.take hs
theorem lv_quest {q:List Te}:∀ lv ∈ levelsB,takeS lv.signs (sgT [63]::q)=none:=by
 intro lv hl;simp only[levelsB,List.mem_cons,List.not_mem_nil,or_false]at hl;rcases hl with rfl|rfl|rfl|rfl|rfl<;>exact takeS_no (by decide)
theorem ex_of_bin {n:Nat} {l r:List Te} {x:ET} (h:binF (exUn n).2 levelsB l=.ok (x,r)) (hr:takeS [[63]] r=none):(exUn (n+1)).1 l=.ok (x,r):=by
 show exF _ _ _=_;unfold exF;rw[h];dsimp only;rw[hr]
theorem ex_of {n:Nat} {t:List Te} {x:ET} (h:PostAt n t x) (hh:HeadT t) {r:List Te} (hr:Stop r):(exUn (n+2)).1 (t++r)=.ok (x,r) :=
 ex_of_bin (bin_pass (un_of h hh (hr.take (by decide))) _ hr.levels) (hr.take (by decide))
/-- brackets around what is read as an expression -/
theorem prim_paren {n:Nat} {l r:List Te} {x:ET} (h:(exUn n).1 (l++sgT [41]::r)=.ok (x,sgT [41]::r)):primF (exUn n).1 (sgT [40]::(l++sgT [41]::r))=.ok (x,r):=by
 rw[primF_0 (takeS_yes (by decide)),h];dsimp only;rw[wantS_yes]
theorem post_prim {n:Nat} {l r:List Te} {x:ET} (h:primF (exUn n).1 (l++r)=.ok (x,r)):postF (exUn n).1 (l++r)=postL (exUn n).1 (r.length+1) x r:=by
 unfold postF;rw[h]
theorem stop_paren {r:List Te}:Stop (sgT [41]::r):=⟨_,_,rfl,.inl rfl⟩
/-- kids' tokens, each read as its expression -/
def PostsAt (n:Nat):List (List Te)→List ET→Prop
 | [],[]=>True
 | t::ts,x::xs=>(PostAt n t x∧HeadT t)∧PostsAt n ts xs
 | _,_=>False
theorem PostsAt.at {n:Nat}:∀ {ts:List (List Te)} {xs:List ET},PostsAt n ts xs→∀ i,i<xs.length→PostAt n (ts.getD i []) (xs.getD i noET)∧HeadT (ts.getD i [])
 | _::_,_::_,h,0,_=>h.1
 | _::_,_::_,h,i+1,hi=>h.2.at i (by simpa using hi)
 | [],[],_,_,hi=>by simp at hi
 | [],_::_,h,_,_=>h.elim
 | _::_,[],h,_,_=>h.elim
/-- a list's items, the first ones read -/
theorem row_of {n:Nat}:∀ (ts:List (List Te)) (xs:List ET),PostsAt n ts xs→ts≠[]→∀ (ns:List (List UInt8)) (ys:List ET) (r:List Te) (m:Nat),(rowK false true ns ts++sgT [93]::r).length<m→rowL (exUn (n+2)).1 m ys (rowK false true ns ts++sgT [93]::r)=.ok (.mk 16 [] noVT [] (ys++xs),r)
 | [t],[x],h,_,ns,ys,r,m+1,_=>by
  have e:rowK false true ns [t]++sgT [93]::r=t++sgT [93]::r:=by simp[rowK]
  rw[e,rowL,ex_of h.1.1 h.1.2 ⟨_,_,rfl,.inr (.inl rfl)⟩];dsimp only;rw[takeS_no (by decide)];dsimp only;rw[wantS_yes]
 | t::t2::ts,x::x2::xs,h,_,ns,ys,r,m+1,hm=>by
  have e:rowK false true ns (t::t2::ts)++sgT [93]::r=t++(sgT [44]::(rowK false true ns.tail (t2::ts)++sgT [93]::r)):=by simp[rowK]
  rw[e]at hm ⊢
  rw[rowL,ex_of h.1.1 h.1.2 ⟨_,_,rfl,.inr (.inr (.inr (.inl rfl)))⟩];dsimp only;rw[takeS_yes (i:=0) (by decide)];dsimp only;rw[row_of (t2::ts) (x2::xs) h.2 (by simp) ns.tail (ys++[x]) r m (by simp at hm ⊢;omega)]
  simp
 | [],_,_,h,_,_,_,_,_=>absurd rfl h
 | [_],[],h,_,_,_,_,_,_=>h.elim
 | [_],_::_::_,h,_,_,_,_,_,_=>h.2.elim
 | _::_::_,[],h,_,_,_,_,_,_=>h.elim
 | _::_::_,[_],h,_,_,_,_,_,_=>h.2.elim
/-- all stand ahead of it -/
def Below' (ns:List (List UInt8)) (s:List UInt8):Prop:=∀ a ∈ ns,Op.bytesLess a s=true
theorem ahead_all {ns:List (List UInt8)} {s:List UInt8} (h:Below' ns s):aheadN ns s=ns.length:=by
 unfold aheadN;induction ns with
 | nil=>rfl
 | cons a l ih =>
  rw[List.takeWhile_cons,if_pos (h a (by simp)),List.length_cons,List.length_cons,ih (fun b hb=>h b (by simp[hb]))]
theorem rowE_less:∀ {a:List UInt8} {l:List (List UInt8)},rowE (a::l)=true→∀ b ∈ l,Op.bytesLess a b=true
 | a,[],_,b,h=>nomatch h
 | a,c::l,h,b,hb=>by
  rw[rowE]at h;simp only[Bool.and_eq_true]at h;rcases List.mem_cons.1 hb with rfl|hb
  ·exact h.1.2
  ·exact less_trans' h.1.2 (rowE_less h.2 b hb)
theorem rowE_tail {a:List UInt8} {l:List (List UInt8)} (h:rowE (a::l)=true):rowE l=true:=by
 cases l with
 | nil=>rfl
 | cons b l=>rw[rowE]at h;simp only[Bool.and_eq_true]at h;exact h.2
theorem nameT_nm {a:List UInt8} {q:List Te}:nameT (nmT a::q)=.ok (a,q):=rfl
theorem rec_of {n:Nat}:∀ (ts:List (List Te)) (xs:List ET),PostsAt n ts xs→ts≠[]→∀ (ns:List (List UInt8)),ns.length=ts.length→rowE ns=true→∀ (ms:List (List UInt8)) (ys:List ET),ms.length=ys.length→(∀ b ∈ ns,Below' ms b)→∀ (r:List Te) (m:Nat),(rowK true true ns ts++sgT [125]::r).length<m →
  recL (exUn (n+2)).1 m ms ys (rowK true true ns ts++sgT [125]::r)=.ok (.mk 17 [] noVT (ms++ns) (ys++xs),r)
 | [t],[x],h,_,[a],_,_,ms,ys,hl,hb,r,m+1,_=>by
  have e:rowK true true [a] [t]++sgT [125]::r=nmT a::sgT [58]::(t++sgT [125]::r):=by simp[rowK]
  have hA:=ahead_all (hb a (by simp));rw[e,recL];rw[nameT_nm];dsimp only;rw[hA,List.getElem?_eq_none (Nat.le_refl _),if_neg (by simp),wantS_yes];dsimp only;rw[ex_of h.1.1 h.1.2 ⟨_,_,rfl,.inr (.inr (.inl rfl))⟩];dsimp only;rw[takeS_no (by decide)];dsimp only;rw[wantS_yes];dsimp only;rw[List.take_length,List.drop_length,hl,List.take_length,List.drop_length]
 | t::t2::ts,x::x2::xs,h,_,a::a2::ns,hn,hr,ms,ys,hl,hb,r,m+1,hm=>by
  have e:rowK true true (a::a2::ns) (t::t2::ts)++sgT [125]::r=nmT a::sgT [58]::(t++(sgT [44]::(rowK true true (a2::ns) (t2::ts)++sgT [125]::r))):=by simp[rowK]
  have hA:=ahead_all (hb a (by simp));rw[e]at hm ⊢
  rw[recL];rw[nameT_nm];dsimp only;rw[hA,List.getElem?_eq_none (Nat.le_refl _),if_neg (by simp),wantS_yes];dsimp only;rw[ex_of h.1.1 h.1.2 ⟨_,_,rfl,.inr (.inr (.inr (.inl rfl)))⟩];dsimp only;rw[takeS_yes (i:=0) (by decide)];dsimp only;rw[List.take_length,List.drop_length,hl,List.take_length,List.drop_length];rw[rec_of (t2::ts) (x2::xs) h.2 (by simp) (a2::ns) (by simpa using hn) (rowE_tail hr) (ms++[a]) (ys++[x]) (by simp[hl]) (fun b hb2 c hc=>by
   rcases List.mem_append.1 hc with hc|hc
   ·exact hb b (by simp only[List.mem_cons]at hb2 ⊢;exact .inr hb2) c hc
   ·rw[List.mem_singleton]at hc;subst hc;exact rowE_less hr b hb2) r m (by simp at hm ⊢;omega)]
  simp
 | [],_,_,h,_,_,_,_,_,_,_,_,_,_=>absurd rfl h
 | [_],[],h,_,_,_,_,_,_,_,_,_,_,_=>h.elim
 | [_],_::_::_,h,_,_,_,_,_,_,_,_,_,_,_=>h.2.elim
 | _::_::_,[],h,_,_,_,_,_,_,_,_,_,_,_=>h.elim
 | _::_::_,[_],h,_,_,_,_,_,_,_,_,_,_,_=>h.2.elim
 | [_],[_],_,_,[],hn,_,_,_,_,_,_,_,_=>by simp at hn
 | [_],[_],_,_,_::_::_,hn,_,_,_,_,_,_,_,_=>by simp at hn
 | _::_::_,_::_::_,_,_,[],hn,_,_,_,_,_,_,_,_=>by simp at hn
 | _::_::_,_::_::_,_,_,[_],hn,_,_,_,_,_,_,_,_=>by simp at hn
end
section
open Go
theorem bin_ends {m:Nat} {k:Int} (k1:5≤k) (k2:k≤14) {t0 t1 R:List Te} {x y:ET} (h0:PostAt m t0 x) (hh0:HeadT t0) (h1:PostAt m t1 y) (hh1:HeadT t1) (hR:Ends R) :
  (exUn (m+2)).1 (t0++sgT (signsB.getD (k - 5).toNat [])::(t1++R))=.ok (twoE k x y,R):=by
 have hk:k=5∨k=6∨k=7∨k=8∨k=9∨k=10∨k=11∨k=12∨k=13∨k=14:=by omega
 rcases hk with rfl|rfl|rfl|rfl|rfl|rfl|rfl|rfl|rfl|rfl
 ·have hb:=bin_op (U:=(exUn (m+1)).2) (lvs1:=[⟨[[124,124]],[14],false⟩,⟨[[38,38]],[13],false⟩,⟨[[61,61],[60],[60,61]],[10,11,12],true⟩]) (lv:=⟨[[43],[45]],[5,6],false⟩) (lvs2:=[⟨[[42],[47],[37]],[7,8,9],false⟩]) (i:=0) (q:=t1++R) (op:=signsB.getD ((5:Int) - 5).toNat [])
   (bin_pass (un_of h0 hh0 (takeS_no (by decide))) _ (by intro lv hl;rw[List.mem_singleton]at hl;subst hl;exact takeS_no (by decide)))
   (takeS_yes (by decide)) (bin_pass (un_of h1 hh1 (hR.take (by decide))) _ (by intro lv hl;rw[List.mem_singleton]at hl;subst hl;exact hR.take (by decide))) (hR.take (by decide))
   (by intro lv hl;simp only[List.mem_cons,List.not_mem_nil,or_false]at hl;rcases hl with rfl|rfl|rfl<;>exact hR.take (by decide))
  exact ex_of_bin hb (hR.take (by decide))
 ·have hb:=bin_op (U:=(exUn (m+1)).2) (lvs1:=[⟨[[124,124]],[14],false⟩,⟨[[38,38]],[13],false⟩,⟨[[61,61],[60],[60,61]],[10,11,12],true⟩]) (lv:=⟨[[43],[45]],[5,6],false⟩) (lvs2:=[⟨[[42],[47],[37]],[7,8,9],false⟩]) (i:=1) (q:=t1++R) (op:=signsB.getD ((6:Int) - 5).toNat [])
   (bin_pass (un_of h0 hh0 (takeS_no (by decide))) _ (by intro lv hl;rw[List.mem_singleton]at hl;subst hl;exact takeS_no (by decide)))
   (takeS_yes (by decide)) (bin_pass (un_of h1 hh1 (hR.take (by decide))) _ (by intro lv hl;rw[List.mem_singleton]at hl;subst hl;exact hR.take (by decide))) (hR.take (by decide))
   (by intro lv hl;simp only[List.mem_cons,List.not_mem_nil,or_false]at hl;rcases hl with rfl|rfl|rfl<;>exact hR.take (by decide))
  exact ex_of_bin hb (hR.take (by decide))
 ·have hb:=bin_op (U:=(exUn (m+1)).2) (lvs1:=[⟨[[124,124]],[14],false⟩,⟨[[38,38]],[13],false⟩,⟨[[61,61],[60],[60,61]],[10,11,12],true⟩,⟨[[43],[45]],[5,6],false⟩]) (lv:=⟨[[42],[47],[37]],[7,8,9],false⟩) (lvs2:=[]) (i:=0) (q:=t1++R) (op:=signsB.getD ((7:Int) - 5).toNat [])
   (bin_pass (un_of h0 hh0 (takeS_no (by decide))) _ (fun _ h=>nomatch h))
   (takeS_yes (by decide)) (bin_pass (un_of h1 hh1 (hR.take (by decide))) _ (fun _ h=>nomatch h)) (hR.take (by decide))
   (by intro lv hl;simp only[List.mem_cons,List.not_mem_nil,or_false]at hl;rcases hl with rfl|rfl|rfl|rfl<;>exact hR.take (by decide))
  exact ex_of_bin hb (hR.take (by decide))
 ·have hb:=bin_op (U:=(exUn (m+1)).2) (lvs1:=[⟨[[124,124]],[14],false⟩,⟨[[38,38]],[13],false⟩,⟨[[61,61],[60],[60,61]],[10,11,12],true⟩,⟨[[43],[45]],[5,6],false⟩]) (lv:=⟨[[42],[47],[37]],[7,8,9],false⟩) (lvs2:=[]) (i:=1) (q:=t1++R) (op:=signsB.getD ((8:Int) - 5).toNat [])
   (bin_pass (un_of h0 hh0 (takeS_no (by decide))) _ (fun _ h=>nomatch h))
   (takeS_yes (by decide)) (bin_pass (un_of h1 hh1 (hR.take (by decide))) _ (fun _ h=>nomatch h)) (hR.take (by decide))
   (by intro lv hl;simp only[List.mem_cons,List.not_mem_nil,or_false]at hl;rcases hl with rfl|rfl|rfl|rfl<;>exact hR.take (by decide))
  exact ex_of_bin hb (hR.take (by decide))
 ·have hb:=bin_op (U:=(exUn (m+1)).2) (lvs1:=[⟨[[124,124]],[14],false⟩,⟨[[38,38]],[13],false⟩,⟨[[61,61],[60],[60,61]],[10,11,12],true⟩,⟨[[43],[45]],[5,6],false⟩]) (lv:=⟨[[42],[47],[37]],[7,8,9],false⟩) (lvs2:=[]) (i:=2) (q:=t1++R) (op:=signsB.getD ((9:Int) - 5).toNat [])
   (bin_pass (un_of h0 hh0 (takeS_no (by decide))) _ (fun _ h=>nomatch h))
   (takeS_yes (by decide)) (bin_pass (un_of h1 hh1 (hR.take (by decide))) _ (fun _ h=>nomatch h)) (hR.take (by decide))
   (by intro lv hl;simp only[List.mem_cons,List.not_mem_nil,or_false]at hl;rcases hl with rfl|rfl|rfl|rfl<;>exact hR.take (by decide))
  exact ex_of_bin hb (hR.take (by decide))
 ·have hb:=bin_op (U:=(exUn (m+1)).2) (lvs1:=[⟨[[124,124]],[14],false⟩,⟨[[38,38]],[13],false⟩]) (lv:=⟨[[61,61],[60],[60,61]],[10,11,12],true⟩) (lvs2:=[⟨[[43],[45]],[5,6],false⟩,⟨[[42],[47],[37]],[7,8,9],false⟩]) (i:=0) (q:=t1++R) (op:=signsB.getD ((10:Int) - 5).toNat [])
   (bin_pass (un_of h0 hh0 (takeS_no (by decide))) _ (by intro lv hl;simp only[List.mem_cons,List.not_mem_nil,or_false]at hl;rcases hl with rfl|rfl<;>exact takeS_no (by decide)))
   (takeS_yes (by decide)) (bin_pass (un_of h1 hh1 (hR.take (by decide))) _ (by intro lv hl;simp only[List.mem_cons,List.not_mem_nil,or_false]at hl;rcases hl with rfl|rfl<;>exact hR.take (by decide))) (hR.take (by decide))
   (by intro lv hl;simp only[List.mem_cons,List.not_mem_nil,or_false]at hl;rcases hl with rfl|rfl<;>exact hR.take (by decide))
  exact ex_of_bin hb (hR.take (by decide))
 ·have hb:=bin_op (U:=(exUn (m+1)).2) (lvs1:=[⟨[[124,124]],[14],false⟩,⟨[[38,38]],[13],false⟩]) (lv:=⟨[[61,61],[60],[60,61]],[10,11,12],true⟩) (lvs2:=[⟨[[43],[45]],[5,6],false⟩,⟨[[42],[47],[37]],[7,8,9],false⟩]) (i:=1) (q:=t1++R) (op:=signsB.getD ((11:Int) - 5).toNat [])
   (bin_pass (un_of h0 hh0 (takeS_no (by decide))) _ (by intro lv hl;simp only[List.mem_cons,List.not_mem_nil,or_false]at hl;rcases hl with rfl|rfl<;>exact takeS_no (by decide)))
   (takeS_yes (by decide)) (bin_pass (un_of h1 hh1 (hR.take (by decide))) _ (by intro lv hl;simp only[List.mem_cons,List.not_mem_nil,or_false]at hl;rcases hl with rfl|rfl<;>exact hR.take (by decide))) (hR.take (by decide))
   (by intro lv hl;simp only[List.mem_cons,List.not_mem_nil,or_false]at hl;rcases hl with rfl|rfl<;>exact hR.take (by decide))
  exact ex_of_bin hb (hR.take (by decide))
 ·have hb:=bin_op (U:=(exUn (m+1)).2) (lvs1:=[⟨[[124,124]],[14],false⟩,⟨[[38,38]],[13],false⟩]) (lv:=⟨[[61,61],[60],[60,61]],[10,11,12],true⟩) (lvs2:=[⟨[[43],[45]],[5,6],false⟩,⟨[[42],[47],[37]],[7,8,9],false⟩]) (i:=2) (q:=t1++R) (op:=signsB.getD ((12:Int) - 5).toNat [])
   (bin_pass (un_of h0 hh0 (takeS_no (by decide))) _ (by intro lv hl;simp only[List.mem_cons,List.not_mem_nil,or_false]at hl;rcases hl with rfl|rfl<;>exact takeS_no (by decide)))
   (takeS_yes (by decide)) (bin_pass (un_of h1 hh1 (hR.take (by decide))) _ (by intro lv hl;simp only[List.mem_cons,List.not_mem_nil,or_false]at hl;rcases hl with rfl|rfl<;>exact hR.take (by decide))) (hR.take (by decide))
   (by intro lv hl;simp only[List.mem_cons,List.not_mem_nil,or_false]at hl;rcases hl with rfl|rfl<;>exact hR.take (by decide))
  exact ex_of_bin hb (hR.take (by decide))
 ·have hb:=bin_op (U:=(exUn (m+1)).2) (lvs1:=[⟨[[124,124]],[14],false⟩]) (lv:=⟨[[38,38]],[13],false⟩) (lvs2:=[⟨[[61,61],[60],[60,61]],[10,11,12],true⟩,⟨[[43],[45]],[5,6],false⟩,⟨[[42],[47],[37]],[7,8,9],false⟩]) (i:=0) (q:=t1++R) (op:=signsB.getD ((13:Int) - 5).toNat [])
   (bin_pass (un_of h0 hh0 (takeS_no (by decide))) _ (by intro lv hl;simp only[List.mem_cons,List.not_mem_nil,or_false]at hl;rcases hl with rfl|rfl|rfl<;>exact takeS_no (by decide)))
   (takeS_yes (by decide)) (bin_pass (un_of h1 hh1 (hR.take (by decide))) _ (by intro lv hl;simp only[List.mem_cons,List.not_mem_nil,or_false]at hl;rcases hl with rfl|rfl|rfl<;>exact hR.take (by decide))) (hR.take (by decide))
   (by intro lv hl;rw[List.mem_singleton]at hl;subst hl;exact hR.take (by decide))
  exact ex_of_bin hb (hR.take (by decide))
 ·have hb:=bin_op (U:=(exUn (m+1)).2) (lvs1:=[]) (lv:=⟨[[124,124]],[14],false⟩) (lvs2:=[⟨[[38,38]],[13],false⟩,⟨[[61,61],[60],[60,61]],[10,11,12],true⟩,⟨[[43],[45]],[5,6],false⟩,⟨[[42],[47],[37]],[7,8,9],false⟩]) (i:=0) (q:=t1++R) (op:=signsB.getD ((14:Int) - 5).toNat [])
   (bin_pass (un_of h0 hh0 (takeS_no (by decide))) _ (by intro lv hl;simp only[List.mem_cons,List.not_mem_nil,or_false]at hl;rcases hl with rfl|rfl|rfl|rfl<;>exact takeS_no (by decide)))
   (takeS_yes (by decide)) (bin_pass (un_of h1 hh1 (hR.take (by decide))) _ (by intro lv hl;simp only[List.mem_cons,List.not_mem_nil,or_false]at hl;rcases hl with rfl|rfl|rfl|rfl<;>exact hR.take (by decide))) (hR.take (by decide))
   (fun _ h=>nomatch h)
  exact ex_of_bin hb (hR.take (by decide))
theorem bin_at {m:Nat} {k:Int} (k1:5≤k) (k2:k≤14) {t0 t1 R:List Te} {x y:ET} (h0:PostAt m t0 x) (hh0:HeadT t0) (h1:PostAt m t1 y) (hh1:HeadT t1) (hR:Stop R) :
  (exUn (m+2)).1 (t0++sgT (signsB.getD (k - 5).toNat [])::(t1++R))=.ok (twoE k x y,R):=bin_ends k1 k2 h0 hh0 h1 hh1 (.inr hR)
theorem const_can {v:VT} (h:constB v=true) (E:List Te→PR) (r:List Te):primF E (tokC v::r)=.ok (conE (canV v),r):=by
 obtain⟨k,n,f,s,ns,its⟩:=v;replace h:(if k=1∨k=4 then rightB (.mk k n f s ns its) else if k=2 then rightB (.mk k n f s ns its)&&decide (0≤n) else if k=3 then rightB (.mk k n f s ns its)&&decide (0≤ordB f 0) else false)=true:=h
 have hR:rightB (.mk k n f s ns its)=true→rightV (.mk k n f s ns its) 12=true:=by
  intro h;unfold rightB at h;simp only[Bool.and_eq_true]at h;exact h.2
 have hz:∀ {g},zeroB g=true→canon g=0:=fun h=>by simpa [zeroB] using h
 have e2:tokC (.mk k n f s ns its)=(if k=1 then nmT (if n=0 then [102,97,108,115,101] else [116,114,117,101]) else if k=2 then⟨2,n,0,[]⟩ else if k=3 then⟨3,0,canon f,[]⟩ else⟨4,0,0,s⟩):=rfl
 rw[e2];clear e2;by_cases h1:k=1
 ·subst h1;rw[if_pos (.inl rfl)]at h;have h2:=hR h;rw[rightV]at h2;simp at h2;obtain⟨⟨⟨⟨a,b⟩,c⟩,d⟩,e⟩:=h2;subst a;subst b;subst d;rw[if_pos rfl,canV,canL,hz c];rcases e with rfl|rfl
  ·rw[if_pos rfl];rfl
  ·rw[if_neg (by decide)];rfl
 ·rw[if_neg h1];by_cases h2:k=2
  ·subst h2;rw[if_neg (by omega),if_pos rfl]at h;simp only[Bool.and_eq_true,decide_eq_true_eq]at h;have h3:=hR h.1;rw[rightV]at h3;simp at h3;obtain⟨⟨⟨a,b⟩,c⟩,d⟩:=h3;subst a;subst b;subst d;rw[if_pos rfl,canV,canL,hz c];rw[primF_n (takeS_kind (by first|(show(2:Int)≠6;decide)|(show(3:Int)≠6;decide)|(show(4:Int)≠6;decide)))]
   rfl
  ·rw[if_neg h2];by_cases h3:k=3
   ·subst h3;rw[if_neg (by omega),if_neg (by omega),if_pos rfl]at h;simp only[Bool.and_eq_true,decide_eq_true_eq]at h;have h4:=hR h.1;rw[rightV]at h4;simp at h4;obtain⟨⟨⟨a,b⟩,c⟩,d⟩:=h4;subst a;subst b;subst d;subst c;rw[if_pos rfl,canV,canL];rw[primF_n (takeS_kind (by first|(show(2:Int)≠6;decide)|(show(3:Int)≠6;decide)|(show(4:Int)≠6;decide)))]
    rfl
   ·rw[if_neg h3];have h4:k=4:=by
     by_cases h4:k=4
     ·exact h4
     ·rw[if_neg (by omega),if_neg h2,if_neg h3]at h;cases h
    subst h4;rw[if_pos (.inr rfl)]at h;have h5:=hR h;rw[rightV]at h5;simp at h5;obtain⟨⟨⟨⟨a,b⟩,c⟩,d⟩,e⟩:=h5;subst a;subst b;subst d;rw[canV,canL,hz c];rw[primF_n (takeS_kind (by first|(show(2:Int)≠6;decide)|(show(3:Int)≠6;decide)|(show(4:Int)≠6;decide)))]
    rfl
theorem first_post {n:Nat} {ka:Int} {t:List Te} {x:ET} (h:∀ n',n≤n'+2→PostAt n' t x) (hh:HeadT t) (hn:2≤n) (R:List Te):postF (exUn n).1 (firstK ka t++R)=postL (exUn n).1 (R.length+1) x R:=by
 unfold firstK;split
 ·obtain⟨m,rfl⟩:∃ m,n=m+2:=⟨n - 2,by omega⟩;have e:sgT [40]::(t++[sgT [41]])++R=sgT [40]::(t++sgT [41]::R):=by simp
  have:=prim_paren (l:=t) (r:=R) (n:=m+2) (x:=x) (ex_of (h m (by omega)) hh stop_paren);rw[e];unfold postF;rw[this]
 ·exact h n (by omega) R
theorem call_prim {n:Nat} {k:Int} (k1:20≤k) (k2:k≤23) {t r:List Te} {x:ET} (h:(exUn n).1 (t++sgT [41]::r)=.ok (x,sgT [41]::r)):primF (exUn n).1 (nmT (callsB.getD (k - 20).toNat [])::sgT [40]::(t++sgT [41]::r))=.ok (oneE k x,r):=by
 have hk:k=20∨k=21∨k=22∨k=23:=by omega
 have hw:∀ (s:List UInt8) (i:Nat),s≠[116,114,117,101]→s≠[102,97,108,115,101]→idxS callsB s=some i→primF (exUn n).1 (nmT s::sgT [40]::(t++sgT [41]::r))=.ok (oneE (20+(i:Int)) x,r):=by
  intro s i h1 h2 h3;rw[primF_n (takeS_kind (by show(5:Int)≠6;decide)),if_neg (by show ¬ (5:Int)=2;decide),if_neg (by show ¬ (5:Int)=3;decide),if_neg (by show ¬ (5:Int)=4;decide),if_pos (show(nmT s).kind=5 from rfl)];unfold wordF;rw[show nameT (nmT s::sgT [40]::(t++sgT [41]::r))=.ok (s,sgT [40]::(t++sgT [41]::r)) from rfl];dsimp only;rw[if_neg h1,if_neg h2,h3];dsimp only;rw[wantS_yes];dsimp only;rw[h];dsimp only;rw[wantS_yes]
 rcases hk with rfl|rfl|rfl|rfl
 ·exact hw _ 0 (by decide) (by decide) (by decide)
 ·exact hw _ 1 (by decide) (by decide) (by decide)
 ·exact hw _ 2 (by decide) (by decide) (by decide)
 ·exact hw _ 3 (by decide) (by decide) (by decide)
theorem elen1 {l:List ET} (h:l.length=1):∃ a,l=[a]:=by
 rcases l with _|⟨a,_|⟨b,l⟩⟩<;>simp at h
 exact⟨a,rfl⟩
theorem elen2 {l:List ET} (h:l.length=2):∃ a b,l=[a,b]:=by
 rcases l with _|⟨a,_|⟨b,_|⟨c,l⟩⟩⟩<;>simp at h
 exact⟨a,b,rfl⟩
theorem elen3 {l:List ET} (h:l.length=3):∃ a b c,l=[a,b,c]:=by
 rcases l with _|⟨a,_|⟨b,_|⟨c,_|⟨d,l⟩⟩⟩⟩<;>simp at h
 exact⟨a,b,c,rfl⟩
mutual
theorem post_E:∀ (x:ET) (far n:Nat),rightE x far=true→3*far≤n→PostAt n (toksE x) (canE x)∧HeadT (toksE x)
 | .mk k s v ns ks,far,n,h,hn=>by
  rw[rightE]at h;split at h
  ·cases h
  ·simp only[Bool.and_eq_true,decide_eq_true_eq]at h;obtain⟨⟨⟨⟨h1,h2⟩,h3⟩,h4⟩,h5⟩:=h;obtain⟨m,rfl⟩:∃ m,n=m+3:=⟨n - 3,by omega⟩;have hP:=fun n' (hn':3*(far - 1)≤n')=>posts_EL ks (far - 1) n' h5 hn'
   have hE:=(exUn_len (m+3)).1;rw[toksE,canE];rcases wants_cases h1 with ⟨hw,hk⟩|⟨hw,hk⟩|⟨hw,hk⟩|⟨hw,hk⟩|⟨hw,hk⟩
   ·have hl:ks=[]:=List.length_eq_zero_iff.1 (by rw[hw]at h2;omega);subst hl;rcases hk with rfl|rfl
    ·rw[if_pos rfl];unfold namedE at h3;rw[if_neg (by decide),if_neg (by decide),if_neg (by decide)]at h3;simp only[Bool.and_eq_true,List.isEmpty_iff]at h3;obtain⟨rfl,rfl⟩:=h3;rw[if_pos rfl]at h4;refine⟨fun r=>post_prim (l:=[tokC v]) (const_can h4 _ r),tokC v,[],rfl,.inl ?_⟩;unfold tokC;repeat' split
     all_goals (first|(show(5:Int)≠6;decide)|(show(2:Int)≠6;decide)|(show(3:Int)≠6;decide)|(show(4:Int)≠6;decide))
    ·rw[if_neg (by decide),if_pos rfl];unfold namedE at h3;rw[if_pos rfl]at h3;simp only[Bool.and_eq_true,Bool.not_eq_true',List.isEmpty_iff]at h3;obtain⟨⟨hw2,hnm⟩,rfl⟩:=h3;obtain⟨_,_,e1,e2,e3⟩:=word_not hw2;rw[if_neg (by decide)]at h4;rw[none_can h4];refine⟨fun r=>post_prim (l:=[nmT s]) ?_,nmT s,[],rfl,.inl (by show(5:Int)≠6;decide)⟩;show primF _ (nmT s::r)=_;rw[primF_n (takeS_kind (by show(5:Int)≠6;decide)),if_neg (by show ¬ (5:Int)=2;decide),if_neg (by show ¬ (5:Int)=3;decide),if_neg (by show ¬ (5:Int)=4;decide),if_pos (show(nmT s).kind=5 from rfl)];unfold wordF;rw[show nameT (nmT s::r)=.ok (s,r) from rfl];dsimp only;rw[if_neg e1,if_neg e2];unfold idxS;rw[e3,if_neg (by decide)];rfl
   ·have hl:ks.length=1:=by rw[hw]at h2;omega
    obtain⟨a,rfl⟩:=elen1 hl;have hA:=fun n' hn'=>(hP n' hn').1
    have hh:=(hA m (by omega)).2;have hv:k≠1:=by rcases hk with rfl|rfl|rfl|⟨h,_⟩<;>omega
    rw[if_neg hv]at h4;rw[none_can h4];rcases hk with rfl|rfl|rfl|⟨k1,k2⟩
    ·simp only[show ¬ ((3:Int)=1) by decide,show ¬ ((3:Int)=2) by decide,if_false,if_true];unfold namedE at h3;rw[if_neg (by decide),if_neg (by decide),if_neg (by decide)]at h3;simp only[Bool.and_eq_true,List.isEmpty_iff]at h3;obtain⟨rfl,rfl⟩:=h3;refine⟨fun r=>?_,sgT [40],_,rfl,.inr (.inl rfl)⟩;have e:([sgT [40],sgT [45]]++(toksEL [a]).getD 0 []++[sgT [41]])++r=sgT [40]::((sgT [45]::toksE a)++sgT [41]::r):=by simp[toksEL]
     rw[e];unfold postF;rw[prim_paren (x:=oneE 3 (canE a))]
     ·rw[canEL,canEL];rfl
     ·refine ex_of_bin (bin_pass (r:=sgT [41]::r) (x:=oneE 3 (canE a)) ?_ _ stop_paren.levels) (stop_paren.take (by decide));rw[show(exUn (m+2)).2=unF (exUn (m+1)).1 (exUn (m+1)).2 from rfl,List.cons_append,unF_0 (takeS_yes (by decide)),un_of (hA m (by omega)).1 hh (stop_paren.take (by decide))]
    ·simp only[show ¬ ((4:Int)=1) by decide,show ¬ ((4:Int)=2) by decide,show ¬ ((4:Int)=3) by decide,if_false,if_true];unfold namedE at h3;rw[if_neg (by decide),if_neg (by decide),if_neg (by decide)]at h3;simp only[Bool.and_eq_true,List.isEmpty_iff]at h3;obtain⟨rfl,rfl⟩:=h3;refine⟨fun r=>?_,sgT [40],_,rfl,.inr (.inl rfl)⟩;have e:([sgT [40],sgT [33]]++(toksEL [a]).getD 0 []++[sgT [41]])++r=sgT [40]::((sgT [33]::toksE a)++sgT [41]::r):=by simp[toksEL]
     rw[e];unfold postF;rw[prim_paren (x:=oneE 4 (canE a))]
     ·rw[canEL,canEL];rfl
     ·refine ex_of_bin (bin_pass (r:=sgT [41]::r) (x:=oneE 4 (canE a)) ?_ _ stop_paren.levels) (stop_paren.take (by decide));rw[show(exUn (m+2)).2=unF (exUn (m+1)).1 (exUn (m+1)).2 from rfl,List.cons_append,unF_1 (takeS_yes (by decide)),un_of (hA m (by omega)).1 hh (stop_paren.take (by decide))]
    ·simp only[show ¬ ((18:Int)=1) by decide,show ¬ ((18:Int)=2) by decide,show ¬ ((18:Int)=3) by decide,show ¬ ((18:Int)=4) by decide,show ¬ ((18:Int)=15) by decide,show ¬ ((18:Int)=16) by decide,show ¬ ((18:Int)=17) by decide,if_false,if_true];unfold namedE at h3;rw[if_neg (by decide),if_pos rfl]at h3;simp only[Bool.and_eq_true,List.isEmpty_iff]at h3;obtain⟨_,rfl⟩:=h3;refine⟨fun r=>?_,?_⟩
     ·have e:(firstK ([a].getD 0 noET).kind ((toksEL [a]).getD 0 [])++[sgT [46]]++[nmT s])++r=firstK a.kind (toksE a)++(sgT [46]::nmT s::r):=by simp[toksEL]
      rw[e,first_post (x:=canE a) (fun n' hn'=>(hA n' (by omega)).1) hh (by omega)];rw[postL_0 (takeS_yes (by decide)),show nameT (nmT s::r)=.ok (s,r) from rfl];dsimp only;rw[canEL,canEL];exact postL_fuel hE _ _ _ _ (by simp;omega) (by omega)
     ·unfold firstK;show HeadT ((if a.kind=1 then sgT [40]::(toksE a++[sgT [41]]) else toksE a)++[sgT [46]]++[nmT s])
      rw[List.append_assoc];refine HeadT.app ?_;split
      ·exact⟨_,_,rfl,.inr (.inl rfl)⟩
      ·exact hh
    ·rw[if_neg (by omega),if_neg (by omega),if_neg (by omega),if_neg (by omega),if_neg (by omega),if_neg (by omega),if_neg (by omega),if_neg (by omega),if_neg (by omega),if_pos ⟨k1,k2⟩];unfold namedE at h3;rw[if_neg (by omega),if_neg (by omega),if_neg (by omega)]at h3;simp only[Bool.and_eq_true,List.isEmpty_iff]at h3;obtain⟨rfl,rfl⟩:=h3;refine⟨fun r=>?_,_,_,rfl,.inl (by show(5:Int)≠6;decide)⟩;have e:([nmT (callsB.getD (k - 20).toNat [])]++[sgT [40]]++(toksEL [a]).getD 0 []++[sgT [41]])++r=nmT (callsB.getD (k - 20).toNat [])::sgT [40]::(toksE a++sgT [41]::r):=by simp[toksEL]
     rw[e];unfold postF;rw[call_prim k1 k2 (ex_of (hA (m+1) (by omega)).1 hh stop_paren),canEL,canEL];rfl
   ·have hl:ks.length=2:=by rw[hw]at h2;omega
    obtain⟨a,b,rfl⟩:=elen2 hl;have hA:=fun n' hn'=>(hP n' hn').1
    have hB:=fun n' hn'=>(hP n' hn').2.1
    have hh:=(hA m (by omega)).2;have hv:k≠1:=by rcases hk with ⟨h,_⟩|rfl<;>omega
    rw[if_neg hv]at h4;rw[none_can h4];unfold namedE at h3;rw[if_neg (by omega),if_neg (by omega),if_neg (by omega)]at h3;simp only[Bool.and_eq_true,List.isEmpty_iff]at h3;obtain⟨rfl,rfl⟩:=h3;rcases hk with ⟨k1,k2⟩|rfl
    ·rw[if_neg (by omega),if_neg (by omega),if_neg (by omega),if_neg (by omega),if_neg (by omega),if_neg (by omega),if_neg (by omega),if_neg (by omega),if_neg (by omega),if_neg (by omega)];refine⟨fun r=>?_,sgT [40],_,rfl,.inr (.inl rfl)⟩;have e:([sgT [40]]++(toksEL [a,b]).getD 0 []++[sgT (signsB.getD (k - 5).toNat [])]++(toksEL [a,b]).getD 1 []++[sgT [41]])++r=sgT [40]::((toksE a++sgT (signsB.getD (k - 5).toNat [])::toksE b)++sgT [41]::r):=by simp[toksEL]
     rw[e];unfold postF;rw[prim_paren (x:=twoE k (canE a) (canE b))]
     ·rw[canEL,canEL,canEL];rfl
     ·have:=bin_at k1 k2 (hA (m+1) (by omega)).1 hh (hB (m+1) (by omega)).1 (hB (m+1) (by omega)).2 (stop_paren (r:=r));rw[←this];congr 1
      simp
    ·simp only[show ¬ ((19:Int)=1) by decide,show ¬ ((19:Int)=2) by decide,show ¬ ((19:Int)=3) by decide,show ¬ ((19:Int)=4) by decide,show ¬ ((19:Int)=15) by decide,show ¬ ((19:Int)=16) by decide,show ¬ ((19:Int)=17) by decide,show ¬ ((19:Int)=18) by decide,if_false,if_true];refine⟨fun r=>?_,?_⟩
     ·have e:(firstK ([a,b].getD 0 noET).kind ((toksEL [a,b]).getD 0 [])++[sgT [91]]++(toksEL [a,b]).getD 1 []++[sgT [93]])++r=firstK a.kind (toksE a)++(sgT [91]::(toksE b++sgT [93]::r)):=by simp[toksEL]
      rw[e,first_post (x:=canE a) (fun n' hn'=>(hA n' (by omega)).1) hh (by omega)];rw[postL_1 (takeS_yes (by decide)),ex_of (hB (m+1) (by omega)).1 (hB (m+1) (by omega)).2 ⟨_,_,rfl,.inr (.inl rfl)⟩];dsimp only;rw[wantS_yes];dsimp only;rw[canEL,canEL,canEL];exact postL_fuel hE _ _ _ _ (by simp;omega) (by omega)
     ·unfold firstK;show HeadT ((if a.kind=1 then sgT [40]::(toksE a++[sgT [41]]) else toksE a)++[sgT [91]]++(toksEL [a,b]).getD 1 []++[sgT [93]])
      rw[List.append_assoc,List.append_assoc];refine HeadT.app ?_;split
      ·exact⟨_,_,rfl,.inr (.inl rfl)⟩
      ·exact hh
   ·subst hk;have hl:ks.length=3:=by rw[hw]at h2;omega
    obtain⟨a,b,c,rfl⟩:=elen3 hl;have hA:=fun n' hn'=>(hP n' hn').1
    have hB:=fun n' hn'=>(hP n' hn').2.1
    have hC:=fun n' hn'=>(hP n' hn').2.2.1
    have hh:=(hA m (by omega)).2;rw[if_neg (by decide)]at h4;rw[none_can h4];unfold namedE at h3;rw[if_neg (by omega),if_neg (by omega),if_neg (by omega)]at h3;simp only[Bool.and_eq_true,List.isEmpty_iff]at h3;obtain⟨rfl,rfl⟩:=h3;simp only[show ¬ ((15:Int)=1) by decide,show ¬ ((15:Int)=2) by decide,show ¬ ((15:Int)=3) by decide,show ¬ ((15:Int)=4) by decide,if_false,if_true];refine⟨fun r=>?_,sgT [40],_,rfl,.inr (.inl rfl)⟩;have e:([sgT [40]]++(toksEL [a,b,c]).getD 0 []++[sgT [63]]++(toksEL [a,b,c]).getD 1 []++[sgT [58]]++(toksEL [a,b,c]).getD 2 []++[sgT [41]])++r=sgT [40]::((toksE a++sgT [63]::(toksE b++sgT [58]::toksE c))++sgT [41]::r):=by simp[toksEL]
    rw[e];unfold postF;rw[prim_paren (x:=.mk 15 [] noVT [] [canE a,canE b,canE c])]
    ·rw[canEL,canEL,canEL,canEL]
    ·have e2:(toksE a++sgT [63]::(toksE b++sgT [58]::toksE c))++sgT [41]::r=toksE a++sgT [63]::(toksE b++sgT [58]::(toksE c++sgT [41]::r)):=by simp
     rw[e2];show exF _ _ _=_;unfold exF;rw[bin_pass (un_of (hA (m+1) (by omega)).1 hh (takeS_no (by decide))) _ lv_quest];dsimp only;rw[takeS_yes (i:=0) (by decide)];dsimp only;rw[ex_of (hB m (by omega)).1 (hB m (by omega)).2 ⟨_,_,rfl,.inr (.inr (.inr (.inr rfl)))⟩];dsimp only;rw[wantS_yes];dsimp only;rw[ex_of (hC m (by omega)).1 (hC m (by omega)).2 stop_paren]
   ·have hv:k≠1:=by rcases hk with rfl|rfl<;>decide
    rw[if_neg hv]at h4;rw[none_can h4];have hlen:=toksEL_length ks;rcases hk with rfl|rfl
    ·simp only[show ¬ ((16:Int)=1) by decide,show ¬ ((16:Int)=2) by decide,show ¬ ((16:Int)=3) by decide,show ¬ ((16:Int)=4) by decide,show ¬ ((16:Int)=15) by decide,if_false,if_true];unfold namedE at h3;rw[if_neg (by decide),if_neg (by decide),if_neg (by decide)]at h3;simp only[Bool.and_eq_true,List.isEmpty_iff]at h3;obtain⟨rfl,rfl⟩:=h3;refine⟨fun r=>?_,sgT [91],_,rfl,.inr (.inr (.inl rfl))⟩;have e:([sgT [91]]++rowK false true [] (toksEL ks)++[sgT [93]])++r=sgT [91]::(rowK false true [] (toksEL ks)++sgT [93]::r):=by simp
     rw[e];unfold postF;rw[primF_1 (takeS_yes (by decide))];have hP1:=hP (m+1) (by omega);cases ks with
     | nil =>
      rw[toksEL,rowK,List.nil_append,takeS_yes (i:=0) (by decide)];rfl
     | cons a ks =>
      have hd:takeS [[93]] (rowK false true [] (toksEL (a::ks))++sgT [93]::r)=none:=by
       rw[toksEL,rowK];simp only[if_true,Bool.false_eq_true,if_false,List.nil_append,List.append_assoc];exact hP1.1.2.app.take (by decide)
      rw[hd];dsimp only;rw[row_of _ _ hP1 (by rw[toksEL];simp) [] [] r _ (Nat.lt_succ_self _)];rfl
    ·simp only[show ¬ ((17:Int)=1) by decide,show ¬ ((17:Int)=2) by decide,show ¬ ((17:Int)=3) by decide,show ¬ ((17:Int)=4) by decide,show ¬ ((17:Int)=15) by decide,show ¬ ((17:Int)=16) by decide,if_false,if_true];unfold namedE at h3;rw[if_neg (by decide),if_neg (by decide),if_pos rfl]at h3;simp only[Bool.and_eq_true,List.isEmpty_iff,decide_eq_true_eq]at h3;obtain⟨⟨rfl,hrow⟩,hnl⟩:=h3;refine⟨fun r=>?_,sgT [123],_,rfl,.inr (.inr (.inr rfl))⟩;have e:([sgT [123]]++rowK true true ns (toksEL ks)++[sgT [125]])++r=sgT [123]::(rowK true true ns (toksEL ks)++sgT [125]::r):=by simp
     rw[e];unfold postF;rw[primF_2 (takeS_yes (by decide))];have hP1:=hP (m+1) (by omega);cases ks with
     | nil =>
      have hns:ns=[]:=List.length_eq_zero_iff.1 hnl;subst hns;rw[toksEL,rowK,List.nil_append,takeS_yes (i:=0) (by decide)];rfl
     | cons a ks =>
      have hd:takeS [[125]] (rowK true true ns (toksEL (a::ks))++sgT [125]::r)=none:=by
       rw[toksEL,rowK];simp only[if_true,List.nil_append,List.append_assoc,List.cons_append];exact takeS_kind (by show(5:Int)≠6;decide)
      rw[hd];dsimp only;rw[rec_of _ _ hP1 (by rw[toksEL];simp) ns (by rw[hnl,hlen]) hrow [] [] rfl (fun _ _ _ h=>nomatch h) r _ (Nat.lt_succ_self _)];rfl
theorem posts_EL:∀ (l:List ET) (far n:Nat),rightEL l far=true→3*far≤n→PostsAt n (toksEL l) (canEL l)
 | [],_,_,_,_=>trivial
 | x::xs,far,n,h,hn=>by
  rw[rightEL,Bool.and_eq_true]at h;exact⟨post_E x far n h.1 hn,posts_EL xs far n h.2 hn⟩
end
end
end Go.Proofs.YtaaaaggmhjhkkaaGreatDoor
