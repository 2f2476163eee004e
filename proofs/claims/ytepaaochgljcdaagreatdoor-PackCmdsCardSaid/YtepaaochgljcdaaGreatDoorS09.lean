/-
  G7, G8, G9 in one text.
-/
import Derived.Test.YtepaaochgljcdaaGreatDoorS08
import Derived.Test.YtepaaochgljcdaaGreatDoorCl
set_option maxRecDepth 100000
set_option maxHeartbeats 32000000
namespace Go.Proofs.YtepaaochgljcdaaGreatDoor
section
open Go.RowKit
theorem RdAt.same {b p:Nat} {s:ByteArray} {st:Option (List UInt8)} {w w':World} (h:RdAt b s st p w) (hb:w'.heap[b]?=w.heap[b]?):RdAt b s st p w':=by
 obtain⟨k,e,h1,h2⟩:=h;exact⟨k,e,hb.trans h1,h2⟩
/-- the items to be read, if their number was read -/
def itemsI (rv:Nat→List UInt8→Option (VT × Nat × List UInt8)) (named:Bool) (n q:Nat) (st:Option (List UInt8)):Option (List (List UInt8) × List VT × Nat × List UInt8):=st.bind (rdItems rv named n q)
/-- so many read, the others still to come, or an error -/
def InvI (I:Option (List (List UInt8) × List VT × Nat × List UInt8)) (rv:Nat→List UInt8→Option (VT × Nat × List UInt8)) (named:Bool) (ns:List (List UInt8)) (its:List VT) (n q:Nat):Option (List UInt8)→Prop
 | some l=>I=preI ns its (rdItems rv named n q l)
 | none=>I=none
theorem many_start (K:Int) (rv:Nat→List UInt8→Option (VT × Nat × List UInt8)) (named:Bool) (q:Nat) (l:List UInt8) :
  (outR 0 (rdMany l)).1≤200∧(((rdMany l).bind fun r=>(rdItems rv named r.1 q r.2).map fun c=>((.mk K 0 0 [] c.1 c.2.1:VT),c.2.2)):Option (VT × Nat × List UInt8))=(itemsI rv named (outR 0 (rdMany l)).1 q (outR 0 (rdMany l)).2).map (fun c=>((.mk K 0 0 [] c.1 c.2.1:VT),c.2.2)) ∧
   InvI (itemsI rv named (outR 0 (rdMany l)).1 q (outR 0 (rdMany l)).2) rv named [] [] ((outR 0 (rdMany l)).1 - 0) q (outR 0 (rdMany l)).2:=by
 have hm:∀ r,rdMany l=some r→r.1≤200:=fun r h=>by
  unfold rdMany at h;split at h
  ·cases h
  ·split at h
   ·cases h
   ·cases h;omega
 cases hr:rdMany l with
 | none=>exact⟨by show 0≤200;omega,rfl,rfl⟩
 | some r=>exact⟨hm r hr,rfl,by show _=preI [] [] _;rw[preI_nil];rfl⟩
theorem inv5 {I:Option (List (List UInt8) × List VT × Nat × List UInt8)} {g q n:Nat} {ns:List (List UInt8)} {its:List VT} {l:List UInt8} {v:VT} {q2:Nat} {st2:Option (List UInt8)}
  (h:ns=[]∧I=preI ns its (rdItems (rdV g) false (n+1) q l)) (hr:match (some l).bind (rdV g q) with|some x=>v=x.1∧q2=x.2.1∧st2=some x.2.2|none=>st2=none):InvI I (rdV g) false ns (its++[v]) n q2 st2:=by
 obtain⟨rfl,h⟩:=h;rw[items_step5]at h;have hr:match rdV g q l with|some x=>v=x.1∧q2=x.2.1∧st2=some x.2.2|none=>st2=none:=hr
 cases hv:rdV g q l with
 | none =>
  rw[hv]at hr h;have hr:st2=none:=hr;subst hr;exact h
 | some x =>
  rw[hv]at hr h;obtain⟨rfl,rfl,rfl⟩:=hr;exact h
theorem inv6 {I:Option (List (List UInt8) × List VT × Nat × List UInt8)} {g q n:Nat} {ns:List (List UInt8)} {its:List VT} {l a:List UInt8} {v:VT} {q2:Nat} {st1 st2:Option (List UInt8)}
  (h:I=preI ns its (rdItems (rdV g) true (n+1) q l)) (hx:outR [] (rdStr 30 l)=(a,st1)) (hr:match st1.bind (rdV g q) with|some x=>v=x.1∧q2=x.2.1∧st2=some x.2.2|none=>st2=none):InvI I (rdV g) true (ns++[a]) (its++[v]) n q2 st2:=by
 rw[items_step6]at h;cases hs:rdStr 30 l with
 | none =>
  rw[hs]at hx h;injection hx with h1 h2
  subst h2;have hr:st2=none:=hr;subst hr;exact h
 | some y =>
  rw[hs]at hx h;injection hx with h1 h2
  subst h1;subst h2;have hr:match rdV g q y.2 with|some x=>v=x.1∧q2=x.2.1∧st2=some x.2.2|none=>st2=none:=hr
  have h:I=(match rdV g q y.2 with|none=>none|some b=>preI (ns++[y.1]) (its++[b.1]) (rdItems (rdV g) true n b.2.1 b.2.2)):=h
  cases hv:rdV g q y.2 with
  | none =>
   rw[hv]at hr h;have hr:st2=none:=hr;subst hr;exact h
  | some x =>
   rw[hv]at hr h;obtain⟨rfl,rfl,rfl⟩:=hr;exact h
theorem res_p' {g q:Nat} {v:VT} {q2:Nat} {st1 st2:Option (List UInt8)} (hr:match st1.bind (rdV g q) with|some x=>v=x.1∧q2=x.2.1∧st2=some x.2.2|none=>st2=none) (hn:st2≠none):q2≤200:=by
 cases st1 with
 | none=>exact absurd hr hn
 | some l =>
  have hr:match rdV g q l with|some x=>v=x.1∧q2=x.2.1∧st2=some x.2.2|none=>st2=none:=hr
  cases hv:rdV g q l with
  | none=>rw[hv]at hr;exact absurd hr hn
  | some x =>
   rw[hv]at hr;obtain⟨_,rfl,_⟩:=hr;exact rdV_p g q l x.1 x.2.1 x.2.2 hv
theorem res_p {g q:Nat} {l:List UInt8} {v:VT} {q2:Nat} {st2:Option (List UInt8)} (hr:match (some l).bind (rdV g q) with|some x=>v=x.1∧q2=x.2.1∧st2=some x.2.2|none=>st2=none) (hn:st2≠none):q2≤200:=res_p' hr hn
theorem str30 (l:List UInt8):(outR [] (rdStr 30 l)).1.length≤30:=by
 cases hr:rdStr 30 l with
 | none=>show [].length≤30;simp
 | some r=>exact(rdStr_dec (s:=r.1) (r:=r.2) hr).2
/-- Reader.Value within so many -/
def RdsV (s:ByteArray) (b g:Nat):Prop:=∀ (dn:Nat) (st:Option (List UInt8)) (q:Nat) (w:World),dn+g=13→q≤200→RdAt b s st q w→Calls Tryz.prog 129 #[.pointer (some ⟨b,0,none⟩),.int .i64 (dn:Int)] w (RVal b s g w (st.bind (rdV g q)))
theorem rvalue_5 (s:ByteArray) (hs:s.size≤1000000) (b:Nat) (st:Option (List UInt8)) (p g0 dn:Nat) (hd:dn+(g0+1)=13) (hp:p≤200) (hp1:p+1≤200) (l2:List UInt8) (hkc:outR 0 ((begR dn p st).bind byteR)=(5,some l2)) (ih:RdsV s b g0) (w:World) (h:RdAt b s st p w) :
  Calls Tryz.prog 129 #[.pointer (some ⟨b,0,none⟩),.int .i64 (dn:Int)] w (RVal b s (g0+1) w ((rdMany l2).bind fun r=>(rdItems (rdV g0) false r.1 (p+1) r.2).map fun c=>(.mk 5 0 0 [] c.1 c.2.1,c.2.2))):=by
 have hM:=fun w h=>rmanyR_any b (p+1) s hs (some l2) w h
 have hM2:∀ w,RdAt b s (some l2) (p+1) w→Calls Tryz.prog 167 #[.pointer (some ⟨b,0,none⟩)] w (RdCall b s (p+1) w ((fun x=>(.int .i64 ((x.1:Nat):Int),x.2)) (outR 0 (rdMany l2)))):=hM;clear hM;obtain⟨hN200,hR,hI0⟩:=many_start 5 (rdV g0) false (p+1) l2;generalize outR 0 (rdMany l2)=mm at *;obtain⟨N,st0⟩:=mm;dsimp only at hN200 hR hI0 hM2;generalize itemsI (rdV g0) false N (p+1) st0=I at *;generalize (((rdMany l2).bind fun r=>(rdItems (rdV g0) false r.1 (p+1) r.2).map fun c=>((.mk 5 0 0 [] c.1 c.2.1:VT),c.2.2)):Option (VT × Nat × List UInt8))=R at *;have HM:=zh hM2;have HR0:=zh hR;have HIH:=zh ih;have HDN:=zh (show((dn+1:Nat):Int)=(dn:Int)+1 from by omega);have hd13:(dn:Int)≤13:=by omega
 have wD:IntKind.i64.wrap ((dn:Int)+1)=(dn:Int)+1:=by rw[IntKind.wrap_i64];omega
 have hq0:p+1≤200:=hp1;clear hM2 hR ih;obtain⟨i0,hi0,hz0,hz1,hz2⟩:=Go.info_parts zero_VT;have HII:=zh hi0;have HZ0:=zh hz0;have HZ1:=zh hz1;have HZ2:=zh hz2;clear hi0 hz0 hz1 hz2;have hsf:∀ (a:Addr) (x:Nat) (m:Mode) (w:World),(store a (.float .f64 x) m).run Tryz.prog w=stored Tryz.prog w a (.float .f64 x) m:=fun a x m w=>run_store _ w a _ m rfl
 have hbl:=h.lt;have h0:=h.below ((Below.refl _ _).alloc (Nat.le_refl _) (.cells #[.int .i64 0,.int .i64 0,.float .f64 0,.string ⟨#[]⟩,.slice none 0 0,.slice none 0 0] 28));have hg0:(w.alloc (.cells #[.int .i64 0,.int .i64 0,.float .f64 0,.string ⟨#[]⟩,.slice none 0 0,.slice none 0 0] 28)).heap[w.heap.size]?=some (.cells #[.int .i64 0,.int .i64 0,.float .f64 0,.string ⟨#[]⟩,.slice none 0 0,.slice none 0 0] 28 (0,0)):=heap_alloc_new w _;have hf0:=(Fr.refl [b] w).alloc (.cells #[.int .i64 0,.int .i64 0,.float .f64 0,.string ⟨#[]⟩,.slice none 0 0,.slice none 0 0] 28);have HB:=zh (fun w h=>rbegin_any dn b p (by omega) s st w h);have HY:=zh (fun w h=>(show Calls Tryz.prog 58 #[.pointer (some ⟨b,0,none⟩)] w (RdCall b s (p+1) w (.int .i64 5,some l2)) from by
  have:=rbyte_any b (p+1) s hs (begR dn p st) w h;rw[hkc]at this;exact this))
 clear h;generalize hgh:w.heap.size=P at *;have HP:=zh hgh;clear hgh;have hnP:P ∉ [b]:=by simp;omega
 go_in;go_wp2_with fail
 rw[HP.out];generalize w.alloc (.cells #[.int .i64 0,.int .i64 0,.float .f64 0,.string ⟨#[]⟩,.slice none 0 0,.slice none 0 0] 28)=W0 at *;refine(HB.out _ h0).mono ?_;rintro e w1 ⟨rfl,h1,hf1⟩;have hg1:=hf1.at hg0 hnP;have A1:=hf0.trans hf1;clear h0 hg0 hf1 hf0;go_wp2_with fail
 refine(HY.out _ h1).mono ?_;rintro e w2 ⟨rfl,h2,hf2⟩;dsimp only at h2 ⊢
 have hg2:=hf2.at hg1 hnP;have A2:=A1.trans hf2;clear h1 hg1 hf2 A1;go_upto_region 3 with (fail)
 have hgQ:(w2.alloc (.cells #[.int .i64 5,.int .i64 0,.float .f64 0,.string ⟨#[]⟩,.slice none 0 0,.slice none 0 0] 28)).heap[w2.heap.size]?=some (.cells #[.int .i64 5,.int .i64 0,.float .f64 0,.string ⟨#[]⟩,.slice none 0 0,.slice none 0 0] 28 (0,0)):=heap_alloc_new w2 _;have hPQ:P<w2.heap.size:=lt_of_block hg2;have hgP:=(Lib.alloc_old w2 (.cells #[.int .i64 5,.int .i64 0,.float .f64 0,.string ⟨#[]⟩,.slice none 0 0,.slice none 0 0] 28) P hPQ).trans hg2;have h3:=h2.below ((Below.refl _ _).alloc (Nat.le_refl _) (.cells #[.int .i64 5,.int .i64 0,.float .f64 0,.string ⟨#[]⟩,.slice none 0 0,.slice none 0 0] 28));have A3:=(A2.alloc (.cells #[.int .i64 5,.int .i64 0,.float .f64 0,.string ⟨#[]⟩,.slice none 0 0,.slice none 0 0] 28)).mono (m:=[b,P,w2.heap.size]) (by simp);clear h2 hg2 A2;generalize w2.alloc (.cells #[.int .i64 5,.int .i64 0,.float .f64 0,.string ⟨#[]⟩,.slice none 0 0,.slice none 0 0] 28)=w3 at *;generalize w2.heap.size=Q at *;have hbQ:b≠Q:=by omega
 have hbP:b≠P:=by omega
 have hPQ':P≠Q:=by omega
 obtain⟨k3,e3,hgr,hkr,g1,g2⟩:=h3;have r2:w3.cell? ⟨b,2,none⟩=some (.int .i64 e3):=by rw[zc hgr];rfl
 obtain⟨h1,hl1⟩:=g1 _ rfl;subst h1;have hr:RdAt b s (some l2) (p+1) w3:=⟨k3,0,hgr,hkr,(fun l h=>by cases h;exact⟨rfl,hl1⟩),(fun h=>nomatch h)⟩
 have HR:=zh hr;clear g1 g2 hgr hr hl1;obtain⟨q0,q1,q2,q3,q4,q5⟩:=cells6 hgQ;have hnQ:Q ∉ [b]:=by simp;omega
 have hbQl:b<Q:=by have:=HP.out;omega
 go_wp2_with fail
 refine(HM.out _ HR.out).mono ?_;rintro e w4 ⟨rfl,h4,hf4⟩;dsimp only at h4 ⊢
 have hgP4:=hf4.at hgP hnP;have hgQ4:=hf4.at hgQ hnQ;have A4:=A3.trans (hf4.mono (m:=[b,P,Q]) (by simp));clear hgP hgQ A3 r2 q0 q1 q2 q3 q4 q5 hf4 HR hkr;go_wp2_with fail
 go_loopw [9] (fun iv wr=>∃ (i q:Nat) (ns:List (List UInt8)) (its:List VT) (pn pi:Value) (st':Option (List UInt8)),i≤N∧iv=.int .i64 (i:Int)∧its.length=i∧ns=[]∧(∀ a ∈ ns,a.length≤30)∧RdAt b s st' q wr∧(st'≠none→q≤200)∧wr.heap[Q]?=some (.cells #[.int .i64 5,.int .i64 0,.float .f64 0,.string ⟨#[]⟩,pn,pi] 28 (0,0))∧wr.heap[P]?=some (.cells #[.int .i64 0,.int .i64 0,.float .f64 0,.string ⟨#[]⟩,.slice none 0 0,.slice none 0 0] 28 (0,0))∧Fr [b,P,Q] w wr∧Rows Q (g0+1) ns its pn pi wr∧InvI I (rdV g0) false ns its (N - i) q st') (fun iv _=>N - (intOf iv).toNat)
 case atStart=>exact⟨0,p+1,[],[],.slice none 0 0,.slice none 0 0,st0,by omega,rfl,rfl,rfl,(fun a ha=>nomatch ha),h4,(fun _=>hq0),hgQ4,hgP4,A4,Rows.nil _ _ _,hI0⟩
 case round =>
  clear h4 hgP4 hgQ4 A4 hI0;obtain⟨i,q,ns,its,pn,pi,st',hi,rfl,hil,hnl,hna,hbr,hq200,hgr,hgp,Ar,hrow,hE⟩:=hrel;obtain⟨pa,pl,pc,rfl⟩:∃ a c d,pi=.slice a c d:=by
   obtain⟨_,⟨xs,h1,_⟩,_⟩:=hrow;rcases h1.2 with ⟨h,_⟩|⟨g,cap,cur,h,_⟩
   ·exact⟨_,_,_,h⟩
   ·exact⟨_,_,_,h⟩
  obtain⟨qa,ql,qc,rfl⟩:∃ a c d,pn=.slice a c d:=by
   obtain⟨h1,_⟩:=hrow;rcases h1.2 with ⟨h,_⟩|⟨g,cap,cur,h,_⟩
   ·exact⟨_,_,_,h⟩
   ·exact⟨_,_,_,h⟩
  have hr2:=hbr;obtain⟨k3,e3,hgb,hkb,g1',g2'⟩:=hr2;have c2:wr.cell? ⟨b,2,none⟩=some (.int .i64 e3):=by rw[zc hgb];rfl
  obtain⟨c0,-,-,-,c4,c5⟩:=cells6 hgr;have hr2:=hbr;clear hgb hkb;cases st' with
  | none =>
   have hn1:ns.length≤1000:=by rw[hnl];simp
   have hnode:=hrow.node (K:=5) (by omega) hn1 (fun s hs=>Nat.le_trans (hna s hs) (by omega)) (by omega);have HN:=zh (show R=none from by rw[HR0.out,show I=none from hE];rfl);have t1:(e3==0)=false:=beq_eq_false_iff_ne.2 (g2' rfl);clear g1' g2' hE hr2;by_cases hlt:i<N
   ·have t7:decide ((i:Int)<(N:Int))=true:=by simp;omega
    go_upto_region 32 with (fail)
    clear c0 c2 c4 c5;obtain⟨q0,q1,q2,q3,q4,q5⟩:=cells6 hgr;have e0:wr.cell? ⟨P,0,none⟩=some (.int .i64 0):=by rw[zc hgp];rfl
    have z0:wr.frozen? ⟨P,0,none⟩=false:=Lib.frozen_of_heap hgp 0;have e1:wr.cell? ⟨P,1,none⟩=some (.int .i64 0):=by rw[zc hgp];rfl
    have z1:wr.frozen? ⟨P,1,none⟩=false:=Lib.frozen_of_heap hgp 1;have e2:wr.cell? ⟨P,2,none⟩=some (.float .f64 0):=by rw[zc hgp];rfl
    have z2:wr.frozen? ⟨P,2,none⟩=false:=Lib.frozen_of_heap hgp 2;have e3:wr.cell? ⟨P,3,none⟩=some (.string ⟨#[]⟩):=by rw[zc hgp];rfl
    have z3:wr.frozen? ⟨P,3,none⟩=false:=Lib.frozen_of_heap hgp 3;have e4:wr.cell? ⟨P,4,none⟩=some (.slice none 0 0):=by rw[zc hgp];rfl
    have z4:wr.frozen? ⟨P,4,none⟩=false:=Lib.frozen_of_heap hgp 4;have e5:wr.cell? ⟨P,5,none⟩=some (.slice none 0 0):=by rw[zc hgp];rfl
    have z5:wr.frozen? ⟨P,5,none⟩=false:=Lib.frozen_of_heap hgp 5;go_wp2_with fail
    have hgF:(((((((wr).setCell ⟨P,0,none⟩ (.int .i64 5)).setCell ⟨P,1,none⟩ (.int .i64 0)).setCell ⟨P,2,none⟩ (.float .f64 0)).setCell ⟨P,3,none⟩ (.string ⟨#[]⟩)).setCell ⟨P,4,none⟩ (.slice qa ql qc)).setCell ⟨P,5,none⟩ (.slice pa pl pc)).heap[P]?=some (.cells #[.int .i64 5,.int .i64 0,.float .f64 0,.string ⟨#[]⟩,.slice qa ql qc,.slice pa pl pc] 28 (0,0)):=heap_setN (heap_setN (heap_setN (heap_setN (heap_setN (heap_setN hgp 0 _) 1 _) 2 _) 3 _) 4 _) 5 _;have FF:=((((((Fr.refl [P] wr).setCell ⟨P,0,none⟩ (by simp) (.int .i64 5)).setCell ⟨P,1,none⟩ (by simp) (.int .i64 0)).setCell ⟨P,2,none⟩ (by simp) (.float .f64 0)).setCell ⟨P,3,none⟩ (by simp) (.string ⟨#[]⟩)).setCell ⟨P,4,none⟩ (by simp) (.slice qa ql qc)).setCell ⟨P,5,none⟩ (by simp) (.slice pa pl pc);clear e0 z0 q0 e1 z1 q1 e2 z2 q2 e3 z3 q3 e4 z4 q4 e5 z5 q5;generalize ((((((wr).setCell ⟨P,0,none⟩ (.int .i64 5)).setCell ⟨P,1,none⟩ (.int .i64 0)).setCell ⟨P,2,none⟩ (.float .f64 0)).setCell ⟨P,3,none⟩ (.string ⟨#[]⟩)).setCell ⟨P,4,none⟩ (.slice qa ql qc)).setCell ⟨P,5,none⟩ (.slice pa pl pc)=X at *;obtain⟨y0,y1,y2,y3,y4,y5⟩:=cells6 hgF;have hrX:=RdAt.kept hbr FF (by simpa using hbP);have hff:=(Ar.trans (FF.mono (m:=[b,P,Q]) (by simp))).fewer3 (by have:=HP.out;omega) (by have:=HP.out;omega);refine bodyPost_ret (v:=.agg #[.int .i64 5,.int .i64 0,.float .f64 0,.string ⟨#[]⟩,.slice qa ql qc,.slice pa pl pc]) (by simp[results,Tryz.results129,go_sem,y0,y1,y2,y3,y4,y5]) rfl ?_;exact⟨.mk 5 0 0 [] ns its,_,q,none,rfl,hnode.kept FF.size (fun g hg hl=>⟨by have:=HP.out;omega,FF.block g hl (by simp;omega)⟩),hrX,hff,by rw[HN.out]⟩
   ·have t7:decide ((i:Int)<(N:Int))=false:=by simp;omega
    go_upto_region 32 with (fail)
    clear c0 c2 c4 c5;obtain⟨q0,q1,q2,q3,q4,q5⟩:=cells6 hgr;have e0:wr.cell? ⟨P,0,none⟩=some (.int .i64 0):=by rw[zc hgp];rfl
    have z0:wr.frozen? ⟨P,0,none⟩=false:=Lib.frozen_of_heap hgp 0;have e1:wr.cell? ⟨P,1,none⟩=some (.int .i64 0):=by rw[zc hgp];rfl
    have z1:wr.frozen? ⟨P,1,none⟩=false:=Lib.frozen_of_heap hgp 1;have e2:wr.cell? ⟨P,2,none⟩=some (.float .f64 0):=by rw[zc hgp];rfl
    have z2:wr.frozen? ⟨P,2,none⟩=false:=Lib.frozen_of_heap hgp 2;have e3:wr.cell? ⟨P,3,none⟩=some (.string ⟨#[]⟩):=by rw[zc hgp];rfl
    have z3:wr.frozen? ⟨P,3,none⟩=false:=Lib.frozen_of_heap hgp 3;have e4:wr.cell? ⟨P,4,none⟩=some (.slice none 0 0):=by rw[zc hgp];rfl
    have z4:wr.frozen? ⟨P,4,none⟩=false:=Lib.frozen_of_heap hgp 4;have e5:wr.cell? ⟨P,5,none⟩=some (.slice none 0 0):=by rw[zc hgp];rfl
    have z5:wr.frozen? ⟨P,5,none⟩=false:=Lib.frozen_of_heap hgp 5;go_wp2_with fail
    have hgF:(((((((wr).setCell ⟨P,0,none⟩ (.int .i64 5)).setCell ⟨P,1,none⟩ (.int .i64 0)).setCell ⟨P,2,none⟩ (.float .f64 0)).setCell ⟨P,3,none⟩ (.string ⟨#[]⟩)).setCell ⟨P,4,none⟩ (.slice qa ql qc)).setCell ⟨P,5,none⟩ (.slice pa pl pc)).heap[P]?=some (.cells #[.int .i64 5,.int .i64 0,.float .f64 0,.string ⟨#[]⟩,.slice qa ql qc,.slice pa pl pc] 28 (0,0)):=heap_setN (heap_setN (heap_setN (heap_setN (heap_setN (heap_setN hgp 0 _) 1 _) 2 _) 3 _) 4 _) 5 _;have FF:=((((((Fr.refl [P] wr).setCell ⟨P,0,none⟩ (by simp) (.int .i64 5)).setCell ⟨P,1,none⟩ (by simp) (.int .i64 0)).setCell ⟨P,2,none⟩ (by simp) (.float .f64 0)).setCell ⟨P,3,none⟩ (by simp) (.string ⟨#[]⟩)).setCell ⟨P,4,none⟩ (by simp) (.slice qa ql qc)).setCell ⟨P,5,none⟩ (by simp) (.slice pa pl pc);clear e0 z0 q0 e1 z1 q1 e2 z2 q2 e3 z3 q3 e4 z4 q4 e5 z5 q5;generalize ((((((wr).setCell ⟨P,0,none⟩ (.int .i64 5)).setCell ⟨P,1,none⟩ (.int .i64 0)).setCell ⟨P,2,none⟩ (.float .f64 0)).setCell ⟨P,3,none⟩ (.string ⟨#[]⟩)).setCell ⟨P,4,none⟩ (.slice qa ql qc)).setCell ⟨P,5,none⟩ (.slice pa pl pc)=X at *;obtain⟨y0,y1,y2,y3,y4,y5⟩:=cells6 hgF;have hrX:=RdAt.kept hbr FF (by simpa using hbP);have hff:=(Ar.trans (FF.mono (m:=[b,P,Q]) (by simp))).fewer3 (by have:=HP.out;omega) (by have:=HP.out;omega);refine bodyPost_ret (v:=.agg #[.int .i64 5,.int .i64 0,.float .f64 0,.string ⟨#[]⟩,.slice qa ql qc,.slice pa pl pc]) (by simp[results,Tryz.results129,go_sem,y0,y1,y2,y3,y4,y5]) rfl ?_;exact⟨.mk 5 0 0 [] ns its,_,q,none,rfl,hnode.kept FF.size (fun g hg hl=>⟨by have:=HP.out;omega,FF.block g hl (by simp;omega)⟩),hrX,hff,by rw[HN.out]⟩
  | some l =>
   obtain⟨h1,_⟩:=g1' _ rfl;subst h1;by_cases hlt:i<N
   ·have t7:decide ((i:Int)<(N:Int))=true:=by simp;omega
    have hE2:I=preI ns its (rdItems (rdV g0) false (N - (i+1)+1) q l):=by rw[show N - (i+1)+1=N - i by omega];exact hE
    have HI:=zh (show Calls Tryz.prog 129 #[.pointer (some ⟨b,0,none⟩),.int .i64 ((dn:Int)+1)] wr.drew (RVal b s g0 wr.drew ((some l).bind (rdV g0 q))) from by
     have:=HIH.out (dn+1) (some l) q wr.drew (by omega) (hq200 (fun h=>nomatch h)) (hbr.below ((Below.refl _ _).drew));rw[HDN.out]at this;exact this)
    have HInv:=zh (fun v q2 st2 (hres:match (some l).bind (rdV g0 q) with|some x=>v=x.1∧q2=x.2.1∧st2=some x.2.2|none=>st2=none)=>inv5 (v:=v) ⟨hnl,hE2⟩ hres)
    have HQ2:=zh (fun v q2 st2 (hres:match (some l).bind (rdV g0 q) with|some x=>v=x.1∧q2=x.2.1∧st2=some x.2.2|none=>st2=none)=>(show st2≠none→q2≤200 from res_p (v:=v) hres))
    have HIL:=zh hil;have HNL:=zh hnl;have HNA:=zh hna;have WQ:=hgr;have WP:=hgp;have WR:=hrow;have WA:=Ar;have hPr:=lt_of_block hgr;have HK:=zh (fun(x:World) (h:x.heap[Q]?=some (.cells #[.int .i64 5,.int .i64 0,.float .f64 0,.string ⟨#[]⟩,.slice qa ql qc,.slice pa pl pc] 28 (0,0)))=>(show x.cell? ⟨Q,5,none⟩=some (.slice pa pl pc)∧x.frozen? ⟨Q,5,none⟩=false from⟨by rw[zc h];rfl,Lib.frozen_of_heap h 5⟩));clear hE2 hnl hna hE hr2 g1' g2';go_wp2_with fail
    go_region_law (first
      | ((go_simp;go_at_call 129;(with_reducible refine(HI.out).mono ?_);rintro e w5 ⟨v,cs,q2,st2,rfl,V5,G1,G2,hres⟩;obtain⟨na,nl,nc,ia,il,ic,rfl⟩:=V5.six;have g5:=G2.at WQ hnQ;have gp5:=G2.at WP hnP;obtain⟨k5,z5⟩:=HK.out _ g5;have a5:=(World.cell?_alloc_some w5 _ (.cells #[.int .i64 v.kind,.int .i64 v.num,.float .f64 v.flt,.string ⟨v.str.toArray⟩,.slice na nl nc,.slice ia il ic] 28) (by rw[k5];rfl)).trans k5;obtain⟨xs,hx,hrA,hvA⟩:=rows_ready WR V5 G2 hbQl hPr (.cells #[.int .i64 v.kind,.int .i64 v.num,.float .f64 v.flt,.string ⟨v.str.toArray⟩,.slice na nl nc,.slice ia il ic] 28);dsimp only))
      | ((refine step_append_lies _ (by rfl) _ _ _ (by rfl) (Q+1) 28 i0 _ 6 88 Tryz.underlying26 HII.out HZ0.out HZ1.out HZ2.out rfl (by omega) (.slice pa pl pc) its.length xs (by rfl) hx ⟨w5.heap.size,0,none⟩ 1 1 [.int .i64 v.kind,.int .i64 v.num,.float .f64 v.flt,.string ⟨v.str.toArray⟩,.slice na nl nc,.slice ia il ic] (by rfl) (by rfl) (World.news_of_block (cs:=#[.int .i64 v.kind,.int .i64 v.num,.float .f64 v.flt,.string ⟨v.str.toArray⟩,.slice na nl nc,.slice ia il ic]) (t:=28) (fr:=(0,0)) (heap_alloc_new w5 _)) (by simp[Value.oneCell']) (by omega) (by unfold maxLen;omega) (by omega) (by have:=G2.size;simp at this ⊢;omega) (w5.heap.size+1) (by simp) ?_;intro g2 cap2 u5 hown5 hgrow5 hat5 hlt5;have hrF:=hrA.item hx (by rfl) hvA hown5 hgrow5 hat5 (by simp);have hnO:∀ k,k≤Q→some k≠Value.ownBlock (.slice pa pl pc):=fun k hk e=>absurd (own_lt hx e.symm).1 (Nat.not_le_of_lt (Nat.lt_succ_of_le hk));have g4:=(hgrow5.block Q (Nat.lt_of_lt_of_le (lt_of_block g5) (by simp)) (hnO Q (Nat.le_refl _))).trans ((Lib.alloc_old w5 _ Q (lt_of_block g5)).trans g5);have gp4:=(hgrow5.block P (Nat.lt_of_lt_of_le (lt_of_block gp5) (by simp)) (hnO P (by omega))).trans ((Lib.alloc_old w5 _ P (lt_of_block gp5)).trans gp5);obtain⟨k4,z4⟩:=HK.out _ g4)))
    all_goals
     go_wp2_with fail
     have hbu:b<w5.heap.size:=G1.lt;have F7:=(Fr.refl [Q] u5).setCell ⟨Q,5,none⟩ (by simp) (.slice (some ⟨g2,0,none⟩) (its.length+1) cap2);have g7:(u5.setCell ⟨Q,5,none⟩ (.slice (some ⟨g2,0,none⟩) (its.length+1) cap2)).heap[Q]?=some (.cells #[.int .i64 5,.int .i64 0,.float .f64 0,.string ⟨#[]⟩,.slice qa ql qc,.slice (some ⟨g2,0,none⟩) (its.length+1) cap2] 28 (0,0)):=heap_setN g4 5 _;have gp7:=F7.at gp4 (by simp;omega);have b7:=(G1.same ((hgrow5.block b (Nat.lt_of_lt_of_le hbu (by simp)) (hnO b (by omega))).trans (Lib.alloc_old w5 (.cells #[.int .i64 v.kind,.int .i64 v.num,.float .f64 v.flt,.string ⟨v.str.toArray⟩,.slice na nl nc,.slice ia il ic] 28) b hbu))).kept F7 (by simpa using hbQ);have A5:Fr [b,P,Q] w (w5.alloc (.cells #[.int .i64 v.kind,.int .i64 v.num,.float .f64 v.flt,.string ⟨v.str.toArray⟩,.slice na nl nc,.slice ia il ic] 28)):=(WA.drew.trans (G2.mono (by simp))).alloc _;have fg:Fr [b,P,Q] w u5:=⟨hgrow5.os.trans A5.os,hgrow5.tape.trans A5.tape,hgrow5.output.trans A5.output,Nat.le_trans A5.size hgrow5.size,fun k hk hn=>(hgrow5.block k (Nat.lt_of_lt_of_le hk A5.size) (hnO k (by have:=HP.out;omega))).trans (A5.block k hk hn)⟩;have r7:Rows Q (g0+1) ns (its++[v]) (.slice qa ql qc) (.slice (some ⟨g2,0,none⟩) (its.length+1) cap2) (u5.setCell ⟨Q,5,none⟩ (.slice (some ⟨g2,0,none⟩) (its.length+1) cap2)):=hrF.far (b:=Q) F7.grown (Nat.le_refl _);rw[HIL.out]at b7 g7 F7 r7 gp7;go_roundw
     case rel=>exact⟨i+1,q2,ns,its++[v],_,_,st2,by omega,by go_num,by simp;exact HIL.out,HNL.out,HNA.out,b7,HQ2.out _ _ _ hres,g7,gp7,fg.trans (F7.mono (by simp)),r7,HInv.out _ _ _ hres⟩
     case measure=>simp[intOf];omega
   ·have t7:decide ((i:Int)<(N:Int))=false:=by simp;omega
    have hE2:I=preI ns its (rdItems (rdV g0) false (N - i) q l):=hE;rw[show N - i=0 by omega,rdItems]at hE2;simp only[preI,List.append_nil]at hE2;have hn1:ns.length≤1000:=by rw[hnl];simp
    have hnode:=hrow.node (K:=5) (by omega) hn1 (fun s hs=>Nat.le_trans (hna s hs) (by omega)) (by omega);have HN:=zh (show R=some (.mk 5 0 0 [] ns its,q,l) from by rw[HR0.out,hE2];rfl);clear g1' g2' hE hE2 hr2;go_upto_region 32 with (fail)
    clear c0 c2 c4 c5;obtain⟨q0,q1,q2,q3,q4,q5⟩:=cells6 hgr;have e0:wr.cell? ⟨P,0,none⟩=some (.int .i64 0):=by rw[zc hgp];rfl
    have z0:wr.frozen? ⟨P,0,none⟩=false:=Lib.frozen_of_heap hgp 0;have e1:wr.cell? ⟨P,1,none⟩=some (.int .i64 0):=by rw[zc hgp];rfl
    have z1:wr.frozen? ⟨P,1,none⟩=false:=Lib.frozen_of_heap hgp 1;have e2:wr.cell? ⟨P,2,none⟩=some (.float .f64 0):=by rw[zc hgp];rfl
    have z2:wr.frozen? ⟨P,2,none⟩=false:=Lib.frozen_of_heap hgp 2;have e3:wr.cell? ⟨P,3,none⟩=some (.string ⟨#[]⟩):=by rw[zc hgp];rfl
    have z3:wr.frozen? ⟨P,3,none⟩=false:=Lib.frozen_of_heap hgp 3;have e4:wr.cell? ⟨P,4,none⟩=some (.slice none 0 0):=by rw[zc hgp];rfl
    have z4:wr.frozen? ⟨P,4,none⟩=false:=Lib.frozen_of_heap hgp 4;have e5:wr.cell? ⟨P,5,none⟩=some (.slice none 0 0):=by rw[zc hgp];rfl
    have z5:wr.frozen? ⟨P,5,none⟩=false:=Lib.frozen_of_heap hgp 5;go_wp2_with fail
    have hgF:(((((((wr).setCell ⟨P,0,none⟩ (.int .i64 5)).setCell ⟨P,1,none⟩ (.int .i64 0)).setCell ⟨P,2,none⟩ (.float .f64 0)).setCell ⟨P,3,none⟩ (.string ⟨#[]⟩)).setCell ⟨P,4,none⟩ (.slice qa ql qc)).setCell ⟨P,5,none⟩ (.slice pa pl pc)).heap[P]?=some (.cells #[.int .i64 5,.int .i64 0,.float .f64 0,.string ⟨#[]⟩,.slice qa ql qc,.slice pa pl pc] 28 (0,0)):=heap_setN (heap_setN (heap_setN (heap_setN (heap_setN (heap_setN hgp 0 _) 1 _) 2 _) 3 _) 4 _) 5 _;have FF:=((((((Fr.refl [P] wr).setCell ⟨P,0,none⟩ (by simp) (.int .i64 5)).setCell ⟨P,1,none⟩ (by simp) (.int .i64 0)).setCell ⟨P,2,none⟩ (by simp) (.float .f64 0)).setCell ⟨P,3,none⟩ (by simp) (.string ⟨#[]⟩)).setCell ⟨P,4,none⟩ (by simp) (.slice qa ql qc)).setCell ⟨P,5,none⟩ (by simp) (.slice pa pl pc);clear e0 z0 q0 e1 z1 q1 e2 z2 q2 e3 z3 q3 e4 z4 q4 e5 z5 q5;generalize ((((((wr).setCell ⟨P,0,none⟩ (.int .i64 5)).setCell ⟨P,1,none⟩ (.int .i64 0)).setCell ⟨P,2,none⟩ (.float .f64 0)).setCell ⟨P,3,none⟩ (.string ⟨#[]⟩)).setCell ⟨P,4,none⟩ (.slice qa ql qc)).setCell ⟨P,5,none⟩ (.slice pa pl pc)=X at *;obtain⟨y0,y1,y2,y3,y4,y5⟩:=cells6 hgF;have hrX:=RdAt.kept hbr FF (by simpa using hbP);have hff:=(Ar.trans (FF.mono (m:=[b,P,Q]) (by simp))).fewer3 (by have:=HP.out;omega) (by have:=HP.out;omega);refine bodyPost_ret (v:=.agg #[.int .i64 5,.int .i64 0,.float .f64 0,.string ⟨#[]⟩,.slice qa ql qc,.slice pa pl pc]) (by simp[results,Tryz.results129,go_sem,y0,y1,y2,y3,y4,y5]) rfl ?_;exact⟨.mk 5 0 0 [] ns its,_,q,some l,rfl,hnode.kept FF.size (fun g hg hl=>⟨by have:=HP.out;omega,FF.block g hl (by simp;omega)⟩),hrX,hff,by rw[HN.out];exact⟨rfl,rfl,rfl⟩⟩
end
section
open Go.RowKit
theorem rvalue_6 (s:ByteArray) (hs:s.size≤1000000) (b:Nat) (st:Option (List UInt8)) (p g0 dn:Nat) (hd:dn+(g0+1)=13) (hp:p≤200) (hp1:p+1≤200) (l2:List UInt8) (hkc:outR 0 ((begR dn p st).bind byteR)=(6,some l2)) (ih:RdsV s b g0) (w:World) (h:RdAt b s st p w) :
  Calls Tryz.prog 129 #[.pointer (some ⟨b,0,none⟩),.int .i64 (dn:Int)] w (RVal b s (g0+1) w ((rdMany l2).bind fun r=>(rdItems (rdV g0) true r.1 (p+1) r.2).map fun c=>(.mk 6 0 0 [] c.1 c.2.1,c.2.2))):=by
 have hM:=fun w h=>rmanyR_any b (p+1) s hs (some l2) w h
 have hM2:∀ w,RdAt b s (some l2) (p+1) w→Calls Tryz.prog 167 #[.pointer (some ⟨b,0,none⟩)] w (RdCall b s (p+1) w ((fun x=>(.int .i64 ((x.1:Nat):Int),x.2)) (outR 0 (rdMany l2)))):=hM;clear hM;obtain⟨hN200,hR,hI0⟩:=many_start 6 (rdV g0) true (p+1) l2;generalize outR 0 (rdMany l2)=mm at *;obtain⟨N,st0⟩:=mm;dsimp only at hN200 hR hI0 hM2;generalize itemsI (rdV g0) true N (p+1) st0=I at *;generalize (((rdMany l2).bind fun r=>(rdItems (rdV g0) true r.1 (p+1) r.2).map fun c=>((.mk 6 0 0 [] c.1 c.2.1:VT),c.2.2)):Option (VT × Nat × List UInt8))=R at *;have HM:=zh hM2;have HR0:=zh hR;have HIH:=zh ih;have HDN:=zh (show((dn+1:Nat):Int)=(dn:Int)+1 from by omega);have hd13:(dn:Int)≤13:=by omega
 have wD:IntKind.i64.wrap ((dn:Int)+1)=(dn:Int)+1:=by rw[IntKind.wrap_i64];omega
 have hq0:p+1≤200:=hp1;clear hM2 hR ih;obtain⟨i0,hi0,hz0,hz1,hz2⟩:=Go.info_parts zero_VT;have HII:=zh hi0;have HZ0:=zh hz0;have HZ1:=zh hz1;have HZ2:=zh hz2;clear hi0 hz0 hz1 hz2;obtain⟨j0,hi0,hz0,hz1,hz2⟩:=Go.info_parts zero_str;have HIJ:=zh hi0;have HY0:=zh hz0;have HY1:=zh hz1;have HY2:=zh hz2;clear hi0 hz0 hz1 hz2;have hsf:∀ (a:Addr) (x:Nat) (m:Mode) (w:World),(store a (.float .f64 x) m).run Tryz.prog w=stored Tryz.prog w a (.float .f64 x) m:=fun a x m w=>run_store _ w a _ m rfl
 have hbl:=h.lt;have h0:=h.below ((Below.refl _ _).alloc (Nat.le_refl _) (.cells #[.int .i64 0,.int .i64 0,.float .f64 0,.string ⟨#[]⟩,.slice none 0 0,.slice none 0 0] 28));have hg0:(w.alloc (.cells #[.int .i64 0,.int .i64 0,.float .f64 0,.string ⟨#[]⟩,.slice none 0 0,.slice none 0 0] 28)).heap[w.heap.size]?=some (.cells #[.int .i64 0,.int .i64 0,.float .f64 0,.string ⟨#[]⟩,.slice none 0 0,.slice none 0 0] 28 (0,0)):=heap_alloc_new w _;have hf0:=(Fr.refl [b] w).alloc (.cells #[.int .i64 0,.int .i64 0,.float .f64 0,.string ⟨#[]⟩,.slice none 0 0,.slice none 0 0] 28);have HB:=zh (fun w h=>rbegin_any dn b p (by omega) s st w h);have HY:=zh (fun w h=>(show Calls Tryz.prog 58 #[.pointer (some ⟨b,0,none⟩)] w (RdCall b s (p+1) w (.int .i64 6,some l2)) from by
  have:=rbyte_any b (p+1) s hs (begR dn p st) w h;rw[hkc]at this;exact this))
 clear h;generalize hgh:w.heap.size=P at *;have HP:=zh hgh;clear hgh;have hnP:P ∉ [b]:=by simp;omega
 go_in;go_wp2_with fail
 rw[HP.out];generalize w.alloc (.cells #[.int .i64 0,.int .i64 0,.float .f64 0,.string ⟨#[]⟩,.slice none 0 0,.slice none 0 0] 28)=W0 at *;refine(HB.out _ h0).mono ?_;rintro e w1 ⟨rfl,h1,hf1⟩;have hg1:=hf1.at hg0 hnP;have A1:=hf0.trans hf1;clear h0 hg0 hf1 hf0;go_wp2_with fail
 refine(HY.out _ h1).mono ?_;rintro e w2 ⟨rfl,h2,hf2⟩;dsimp only at h2 ⊢
 have hg2:=hf2.at hg1 hnP;have A2:=A1.trans hf2;clear h1 hg1 hf2 A1;go_upto_region 3 with (fail)
 have hgQ:(w2.alloc (.cells #[.int .i64 6,.int .i64 0,.float .f64 0,.string ⟨#[]⟩,.slice none 0 0,.slice none 0 0] 28)).heap[w2.heap.size]?=some (.cells #[.int .i64 6,.int .i64 0,.float .f64 0,.string ⟨#[]⟩,.slice none 0 0,.slice none 0 0] 28 (0,0)):=heap_alloc_new w2 _;have hPQ:P<w2.heap.size:=lt_of_block hg2;have hgP:=(Lib.alloc_old w2 (.cells #[.int .i64 6,.int .i64 0,.float .f64 0,.string ⟨#[]⟩,.slice none 0 0,.slice none 0 0] 28) P hPQ).trans hg2;have h3:=h2.below ((Below.refl _ _).alloc (Nat.le_refl _) (.cells #[.int .i64 6,.int .i64 0,.float .f64 0,.string ⟨#[]⟩,.slice none 0 0,.slice none 0 0] 28));have A3:=(A2.alloc (.cells #[.int .i64 6,.int .i64 0,.float .f64 0,.string ⟨#[]⟩,.slice none 0 0,.slice none 0 0] 28)).mono (m:=[b,P,w2.heap.size]) (by simp);clear h2 hg2 A2;generalize w2.alloc (.cells #[.int .i64 6,.int .i64 0,.float .f64 0,.string ⟨#[]⟩,.slice none 0 0,.slice none 0 0] 28)=w3 at *;generalize w2.heap.size=Q at *;have hbQ:b≠Q:=by omega
 have hbP:b≠P:=by omega
 have hPQ':P≠Q:=by omega
 obtain⟨k3,e3,hgr,hkr,g1,g2⟩:=h3;have r2:w3.cell? ⟨b,2,none⟩=some (.int .i64 e3):=by rw[zc hgr];rfl
 obtain⟨h1,hl1⟩:=g1 _ rfl;subst h1;have hr:RdAt b s (some l2) (p+1) w3:=⟨k3,0,hgr,hkr,(fun l h=>by cases h;exact⟨rfl,hl1⟩),(fun h=>nomatch h)⟩
 have HR:=zh hr;clear g1 g2 hgr hr hl1;obtain⟨q0,q1,q2,q3,q4,q5⟩:=cells6 hgQ;have hnQ:Q ∉ [b]:=by simp;omega
 have hbQl:b<Q:=by have:=HP.out;omega
 go_wp2_with fail
 refine(HM.out _ HR.out).mono ?_;rintro e w4 ⟨rfl,h4,hf4⟩;dsimp only at h4 ⊢
 have hgP4:=hf4.at hgP hnP;have hgQ4:=hf4.at hgQ hnQ;have A4:=A3.trans (hf4.mono (m:=[b,P,Q]) (by simp));clear hgP hgQ A3 r2 q0 q1 q2 q3 q4 q5 hf4 HR hkr;go_wp2_with fail
 go_loopw [9] (fun iv wr=>∃ (i q:Nat) (ns:List (List UInt8)) (its:List VT) (pn pi:Value) (st':Option (List UInt8)),i≤N∧iv=.int .i64 (i:Int)∧its.length=i∧ns.length=i∧(∀ a ∈ ns,a.length≤30)∧RdAt b s st' q wr∧(st'≠none→q≤200)∧wr.heap[Q]?=some (.cells #[.int .i64 6,.int .i64 0,.float .f64 0,.string ⟨#[]⟩,pn,pi] 28 (0,0))∧wr.heap[P]?=some (.cells #[.int .i64 0,.int .i64 0,.float .f64 0,.string ⟨#[]⟩,.slice none 0 0,.slice none 0 0] 28 (0,0))∧Fr [b,P,Q] w wr∧Rows Q (g0+1) ns its pn pi wr∧InvI I (rdV g0) true ns its (N - i) q st') (fun iv _=>N - (intOf iv).toNat)
 case atStart=>exact⟨0,p+1,[],[],.slice none 0 0,.slice none 0 0,st0,by omega,rfl,rfl,rfl,(fun a ha=>nomatch ha),h4,(fun _=>hq0),hgQ4,hgP4,A4,Rows.nil _ _ _,hI0⟩
 case round =>
  clear h4 hgP4 hgQ4 A4 hI0;obtain⟨i,q,ns,its,pn,pi,st',hi,rfl,hil,hnl,hna,hbr,hq200,hgr,hgp,Ar,hrow,hE⟩:=hrel;obtain⟨pa,pl,pc,rfl⟩:∃ a c d,pi=.slice a c d:=by
   obtain⟨_,⟨xs,h1,_⟩,_⟩:=hrow;rcases h1.2 with ⟨h,_⟩|⟨g,cap,cur,h,_⟩
   ·exact⟨_,_,_,h⟩
   ·exact⟨_,_,_,h⟩
  obtain⟨qa,ql,qc,rfl⟩:∃ a c d,pn=.slice a c d:=by
   obtain⟨h1,_⟩:=hrow;rcases h1.2 with ⟨h,_⟩|⟨g,cap,cur,h,_⟩
   ·exact⟨_,_,_,h⟩
   ·exact⟨_,_,_,h⟩
  have hr2:=hbr;obtain⟨k3,e3,hgb,hkb,g1',g2'⟩:=hr2;have c2:wr.cell? ⟨b,2,none⟩=some (.int .i64 e3):=by rw[zc hgb];rfl
  obtain⟨c0,-,-,-,c4,c5⟩:=cells6 hgr;have hr2:=hbr;clear hgb hkb;cases st' with
  | none =>
   have hn1:ns.length≤1000:=by omega
   have hnode:=hrow.node (K:=6) (by omega) hn1 (fun s hs=>Nat.le_trans (hna s hs) (by omega)) (by omega);have HN:=zh (show R=none from by rw[HR0.out,show I=none from hE];rfl);have t1:(e3==0)=false:=beq_eq_false_iff_ne.2 (g2' rfl);clear g1' g2' hE hr2;by_cases hlt:i<N
   ·have t7:decide ((i:Int)<(N:Int))=true:=by simp;omega
    go_upto_region 32 with (fail)
    clear c0 c2 c4 c5;obtain⟨q0,q1,q2,q3,q4,q5⟩:=cells6 hgr;have e0:wr.cell? ⟨P,0,none⟩=some (.int .i64 0):=by rw[zc hgp];rfl
    have z0:wr.frozen? ⟨P,0,none⟩=false:=Lib.frozen_of_heap hgp 0;have e1:wr.cell? ⟨P,1,none⟩=some (.int .i64 0):=by rw[zc hgp];rfl
    have z1:wr.frozen? ⟨P,1,none⟩=false:=Lib.frozen_of_heap hgp 1;have e2:wr.cell? ⟨P,2,none⟩=some (.float .f64 0):=by rw[zc hgp];rfl
    have z2:wr.frozen? ⟨P,2,none⟩=false:=Lib.frozen_of_heap hgp 2;have e3:wr.cell? ⟨P,3,none⟩=some (.string ⟨#[]⟩):=by rw[zc hgp];rfl
    have z3:wr.frozen? ⟨P,3,none⟩=false:=Lib.frozen_of_heap hgp 3;have e4:wr.cell? ⟨P,4,none⟩=some (.slice none 0 0):=by rw[zc hgp];rfl
    have z4:wr.frozen? ⟨P,4,none⟩=false:=Lib.frozen_of_heap hgp 4;have e5:wr.cell? ⟨P,5,none⟩=some (.slice none 0 0):=by rw[zc hgp];rfl
    have z5:wr.frozen? ⟨P,5,none⟩=false:=Lib.frozen_of_heap hgp 5;go_wp2_with fail
    have hgF:(((((((wr).setCell ⟨P,0,none⟩ (.int .i64 6)).setCell ⟨P,1,none⟩ (.int .i64 0)).setCell ⟨P,2,none⟩ (.float .f64 0)).setCell ⟨P,3,none⟩ (.string ⟨#[]⟩)).setCell ⟨P,4,none⟩ (.slice qa ql qc)).setCell ⟨P,5,none⟩ (.slice pa pl pc)).heap[P]?=some (.cells #[.int .i64 6,.int .i64 0,.float .f64 0,.string ⟨#[]⟩,.slice qa ql qc,.slice pa pl pc] 28 (0,0)):=heap_setN (heap_setN (heap_setN (heap_setN (heap_setN (heap_setN hgp 0 _) 1 _) 2 _) 3 _) 4 _) 5 _;have FF:=((((((Fr.refl [P] wr).setCell ⟨P,0,none⟩ (by simp) (.int .i64 6)).setCell ⟨P,1,none⟩ (by simp) (.int .i64 0)).setCell ⟨P,2,none⟩ (by simp) (.float .f64 0)).setCell ⟨P,3,none⟩ (by simp) (.string ⟨#[]⟩)).setCell ⟨P,4,none⟩ (by simp) (.slice qa ql qc)).setCell ⟨P,5,none⟩ (by simp) (.slice pa pl pc);clear e0 z0 q0 e1 z1 q1 e2 z2 q2 e3 z3 q3 e4 z4 q4 e5 z5 q5;generalize ((((((wr).setCell ⟨P,0,none⟩ (.int .i64 6)).setCell ⟨P,1,none⟩ (.int .i64 0)).setCell ⟨P,2,none⟩ (.float .f64 0)).setCell ⟨P,3,none⟩ (.string ⟨#[]⟩)).setCell ⟨P,4,none⟩ (.slice qa ql qc)).setCell ⟨P,5,none⟩ (.slice pa pl pc)=X at *;obtain⟨y0,y1,y2,y3,y4,y5⟩:=cells6 hgF;have hrX:=RdAt.kept hbr FF (by simpa using hbP);have hff:=(Ar.trans (FF.mono (m:=[b,P,Q]) (by simp))).fewer3 (by have:=HP.out;omega) (by have:=HP.out;omega);refine bodyPost_ret (v:=.agg #[.int .i64 6,.int .i64 0,.float .f64 0,.string ⟨#[]⟩,.slice qa ql qc,.slice pa pl pc]) (by simp[results,Tryz.results129,go_sem,y0,y1,y2,y3,y4,y5]) rfl ?_;exact⟨.mk 6 0 0 [] ns its,_,q,none,rfl,hnode.kept FF.size (fun g hg hl=>⟨by have:=HP.out;omega,FF.block g hl (by simp;omega)⟩),hrX,hff,by rw[HN.out]⟩
   ·have t7:decide ((i:Int)<(N:Int))=false:=by simp;omega
    go_upto_region 32 with (fail)
    clear c0 c2 c4 c5;obtain⟨q0,q1,q2,q3,q4,q5⟩:=cells6 hgr;have e0:wr.cell? ⟨P,0,none⟩=some (.int .i64 0):=by rw[zc hgp];rfl
    have z0:wr.frozen? ⟨P,0,none⟩=false:=Lib.frozen_of_heap hgp 0;have e1:wr.cell? ⟨P,1,none⟩=some (.int .i64 0):=by rw[zc hgp];rfl
    have z1:wr.frozen? ⟨P,1,none⟩=false:=Lib.frozen_of_heap hgp 1;have e2:wr.cell? ⟨P,2,none⟩=some (.float .f64 0):=by rw[zc hgp];rfl
    have z2:wr.frozen? ⟨P,2,none⟩=false:=Lib.frozen_of_heap hgp 2;have e3:wr.cell? ⟨P,3,none⟩=some (.string ⟨#[]⟩):=by rw[zc hgp];rfl
    have z3:wr.frozen? ⟨P,3,none⟩=false:=Lib.frozen_of_heap hgp 3;have e4:wr.cell? ⟨P,4,none⟩=some (.slice none 0 0):=by rw[zc hgp];rfl
    have z4:wr.frozen? ⟨P,4,none⟩=false:=Lib.frozen_of_heap hgp 4;have e5:wr.cell? ⟨P,5,none⟩=some (.slice none 0 0):=by rw[zc hgp];rfl
    have z5:wr.frozen? ⟨P,5,none⟩=false:=Lib.frozen_of_heap hgp 5;go_wp2_with fail
    have hgF:(((((((wr).setCell ⟨P,0,none⟩ (.int .i64 6)).setCell ⟨P,1,none⟩ (.int .i64 0)).setCell ⟨P,2,none⟩ (.float .f64 0)).setCell ⟨P,3,none⟩ (.string ⟨#[]⟩)).setCell ⟨P,4,none⟩ (.slice qa ql qc)).setCell ⟨P,5,none⟩ (.slice pa pl pc)).heap[P]?=some (.cells #[.int .i64 6,.int .i64 0,.float .f64 0,.string ⟨#[]⟩,.slice qa ql qc,.slice pa pl pc] 28 (0,0)):=heap_setN (heap_setN (heap_setN (heap_setN (heap_setN (heap_setN hgp 0 _) 1 _) 2 _) 3 _) 4 _) 5 _;have FF:=((((((Fr.refl [P] wr).setCell ⟨P,0,none⟩ (by simp) (.int .i64 6)).setCell ⟨P,1,none⟩ (by simp) (.int .i64 0)).setCell ⟨P,2,none⟩ (by simp) (.float .f64 0)).setCell ⟨P,3,none⟩ (by simp) (.string ⟨#[]⟩)).setCell ⟨P,4,none⟩ (by simp) (.slice qa ql qc)).setCell ⟨P,5,none⟩ (by simp) (.slice pa pl pc);clear e0 z0 q0 e1 z1 q1 e2 z2 q2 e3 z3 q3 e4 z4 q4 e5 z5 q5;generalize ((((((wr).setCell ⟨P,0,none⟩ (.int .i64 6)).setCell ⟨P,1,none⟩ (.int .i64 0)).setCell ⟨P,2,none⟩ (.float .f64 0)).setCell ⟨P,3,none⟩ (.string ⟨#[]⟩)).setCell ⟨P,4,none⟩ (.slice qa ql qc)).setCell ⟨P,5,none⟩ (.slice pa pl pc)=X at *;obtain⟨y0,y1,y2,y3,y4,y5⟩:=cells6 hgF;have hrX:=RdAt.kept hbr FF (by simpa using hbP);have hff:=(Ar.trans (FF.mono (m:=[b,P,Q]) (by simp))).fewer3 (by have:=HP.out;omega) (by have:=HP.out;omega);refine bodyPost_ret (v:=.agg #[.int .i64 6,.int .i64 0,.float .f64 0,.string ⟨#[]⟩,.slice qa ql qc,.slice pa pl pc]) (by simp[results,Tryz.results129,go_sem,y0,y1,y2,y3,y4,y5]) rfl ?_;exact⟨.mk 6 0 0 [] ns its,_,q,none,rfl,hnode.kept FF.size (fun g hg hl=>⟨by have:=HP.out;omega,FF.block g hl (by simp;omega)⟩),hrX,hff,by rw[HN.out]⟩
  | some l =>
   obtain⟨h1,_⟩:=g1' _ rfl;subst h1;by_cases hlt:i<N
   ·have t7:decide ((i:Int)<(N:Int))=true:=by simp;omega
    have hE2:I=preI ns its (rdItems (rdV g0) true (N - (i+1)+1) q l):=by rw[show N - (i+1)+1=N - i by omega];exact hE
    have hC:=fun w h=>rstrR_any 30 (by omega) b q s hs (some l) w h
    have hC2:Calls Tryz.prog 166 #[.pointer (some ⟨b,0,none⟩),.int .i64 30] wr.drew (RdCall b s q wr.drew ((fun x=>(.string ⟨x.1.toArray⟩,x.2)) (outR [] (rdStr 30 l)))):=hC wr.drew (hbr.below ((Below.refl _ _).drew));clear hC;have ha30:=str30 l;generalize hx:outR [] (rdStr 30 l)=xx at *;obtain⟨a,st1⟩:=xx;have HC:=zh hC2;clear hC2;have HI0:=zh (fun(W:World) (h:RdAt b s st1 q W)=>(show Calls Tryz.prog 129 #[.pointer (some ⟨b,0,none⟩),.int .i64 ((dn:Int)+1)] W (RVal b s g0 W (st1.bind (rdV g0 q))) from by
     have:=HIH.out (dn+1) st1 q W (by omega) (hq200 (fun h=>nomatch h)) h;rw[HDN.out]at this;exact this))
    have HInv:=zh (fun v q2 st2 (hres:match st1.bind (rdV g0 q) with|some x=>v=x.1∧q2=x.2.1∧st2=some x.2.2|none=>st2=none)=>inv6 (v:=v) hE2 hx hres)
    have HQ2:=zh (fun v q2 st2 (hres:match st1.bind (rdV g0 q) with|some x=>v=x.1∧q2=x.2.1∧st2=some x.2.2|none=>st2=none)=>(show st2≠none→q2≤200 from res_p' (v:=v) hres))
    have HIL:=zh hil;have HNL:=zh hnl;have HNA:=zh (show ∀ x ∈ ns++[a],x.length≤30 from fun x hx=>by
     rcases List.mem_append.1 hx with h|h
     ·exact hna x h
     ·rw[List.mem_singleton.1 h];exact ha30)
    have hPr:=lt_of_block hgr;have HKn:=zh (fun(x:World) (h:x.heap[Q]?=some (.cells #[.int .i64 6,.int .i64 0,.float .f64 0,.string ⟨#[]⟩,.slice qa ql qc,.slice pa pl pc] 28 (0,0)))=>(show x.cell? ⟨Q,4,none⟩=some (.slice qa ql qc)∧x.frozen? ⟨Q,4,none⟩=false from⟨by rw[zc h];rfl,Lib.frozen_of_heap h 4⟩));clear hE2 hna hE hr2 g1' g2' hx ha30;go_wp2_with fail
    go_region_law (first
      | ((go_simp;go_at_call 166;(with_reducible refine(HC.out).mono ?_);rintro e w5 ⟨rfl,G1,G2⟩;dsimp only at G1;have g5:=G2.at hgr hnQ;have gp5:=G2.at hgp hnP;obtain⟨k5,z5⟩:=HKn.out _ g5;have a5:=(World.cell?_alloc_some w5 _ (.cells #[.string ⟨a.toArray⟩] 9) (by rw[k5];rfl)).trans k5;have hrA:=names_ready hrow G2 hbQl (.cells #[.string ⟨a.toArray⟩] 9);have hx:=hrA.hn;dsimp only))
      | ((refine step_append_lies _ (by rfl) _ _ _ (by rfl) (Q+1) 9 j0 _ 1 16 Tryz.underlying25 HIJ.out HY0.out HY1.out HY2.out rfl (by omega) (.slice qa ql qc) ns.length _ (by rfl) hx ⟨w5.heap.size,0,none⟩ 1 1 [.string ⟨a.toArray⟩] (by rfl) (by rfl) (World.news_of_block (cs:=#[.string ⟨a.toArray⟩]) (t:=9) (fr:=(0,0)) (heap_alloc_new w5 _)) (by simp[Value.oneCell']) (by omega) (by unfold maxLen;omega) (by omega) (by have:=G2.size;simp at this ⊢;omega) (w5.heap.size+1) (by simp) ?_;intro g cap u4 hown4 hgrow hat hlt4;have hrF:=hrA.name hown4 hgrow hat (by simp);have hnO:∀ k,k≤Q→some k≠Value.ownBlock (.slice qa ql qc):=fun k hk e=>absurd (own_lt hx e.symm).1 (Nat.not_le_of_lt (Nat.lt_succ_of_le hk));have g4:=(hgrow.block Q (Nat.lt_of_lt_of_le (lt_of_block g5) (by simp)) (hnO Q (Nat.le_refl _))).trans ((Lib.alloc_old w5 _ Q (lt_of_block g5)).trans g5);have gp4:=(hgrow.block P (Nat.lt_of_lt_of_le (lt_of_block gp5) (by simp)) (hnO P (by omega))).trans ((Lib.alloc_old w5 _ P (lt_of_block gp5)).trans gp5);obtain⟨k4,z4⟩:=HKn.out _ g4)))
    all_goals
     have hbu:b<w5.heap.size:=G1.lt;have F6:=(Fr.refl [Q] u4).setCell ⟨Q,4,none⟩ (by simp) (.slice (some ⟨g,0,none⟩) (ns.length+1) cap);have g6:(u4.setCell ⟨Q,4,none⟩ (.slice (some ⟨g,0,none⟩) (ns.length+1) cap)).heap[Q]?=some (.cells #[.int .i64 6,.int .i64 0,.float .f64 0,.string ⟨#[]⟩,.slice (some ⟨g,0,none⟩) (ns.length+1) cap,.slice pa pl pc] 28 (0,0)):=heap_setN g4 4 _;have gp6:=F6.at gp4 (by simp;omega);have b6:=(G1.same ((hgrow.block b (Nat.lt_of_lt_of_le hbu (by simp)) (hnO b (by omega))).trans (Lib.alloc_old w5 (.cells #[.string ⟨a.toArray⟩] 9) b hbu))).kept F6 (by simpa using hbQ);have A5:Fr [b,P,Q] w (w5.alloc (.cells #[.string ⟨a.toArray⟩] 9)):=(Ar.drew.trans (G2.mono (by simp))).alloc _;have fg0:Fr [b,P,Q] w u4:=⟨hgrow.os.trans A5.os,hgrow.tape.trans A5.tape,hgrow.output.trans A5.output,Nat.le_trans A5.size hgrow.size,fun k hk hn=>(hgrow.block k (Nat.lt_of_lt_of_le hk A5.size) (hnO k (by have:=HP.out;omega))).trans (A5.block k hk hn)⟩;have WR:Rows Q (g0+1) (ns++[a]) its (.slice (some ⟨g,0,none⟩) (ns.length+1) cap) (.slice pa pl pc) (u4.setCell ⟨Q,4,none⟩ (.slice (some ⟨g,0,none⟩) (ns.length+1) cap)):=hrF.far (b:=Q) F6.grown (Nat.le_refl _);have WA:=fg0.trans (F6.mono (m:=[b,P,Q]) (by simp));rw[HNL.out]at b6 g6 F6 WR gp6 WA;clear G1 G2 hrF hrA hx a5 A5 hnO k5 z5 fg0 g4 gp4 g5 gp5 hgrow hat hlt4 hown4 F6 hbu;go_wp2_with fail
     generalize hX6:u4.setCell ⟨Q,4,none⟩ (.slice (some ⟨g,0,none⟩) (i+1) cap)=W6 at *;clear hX6;have c5:W6.cell? ⟨Q,5,none⟩=some (.slice pa pl pc):=by rw[zc g6];rfl
     have WQ:=g6;have WP:=gp6;have HI:=zh (HI0.out W6.drew (b6.below ((Below.refl _ _).drew)));have HK:=zh (fun(x:World) (h:x.heap[Q]?=some (.cells #[.int .i64 6,.int .i64 0,.float .f64 0,.string ⟨#[]⟩,.slice (some ⟨g,0,none⟩) (i+1) cap,.slice pa pl pc] 28 (0,0)))=>(show x.cell? ⟨Q,5,none⟩=some (.slice pa pl pc)∧x.frozen? ⟨Q,5,none⟩=false from⟨by rw[zc h];rfl,Lib.frozen_of_heap h 5⟩));replace hPr:=lt_of_block g6;go_region_law (first
       | ((go_simp;go_at_call 129;(with_reducible refine(HI.out).mono ?_);rintro e w5 ⟨v,cs,q2,st2,rfl,V5,G1,G2,hres⟩;obtain⟨na,nl,nc,ia,il,ic,rfl⟩:=V5.six;have g5:=G2.at WQ hnQ;have gp5:=G2.at WP hnP;obtain⟨k5,z5⟩:=HK.out _ g5;have a5:=(World.cell?_alloc_some w5 _ (.cells #[.int .i64 v.kind,.int .i64 v.num,.float .f64 v.flt,.string ⟨v.str.toArray⟩,.slice na nl nc,.slice ia il ic] 28) (by rw[k5];rfl)).trans k5;obtain⟨xs,hx,hrA,hvA⟩:=rows_ready WR V5 G2 hbQl hPr (.cells #[.int .i64 v.kind,.int .i64 v.num,.float .f64 v.flt,.string ⟨v.str.toArray⟩,.slice na nl nc,.slice ia il ic] 28);dsimp only))
       | ((refine step_append_lies _ (by rfl) _ _ _ (by rfl) (Q+1) 28 i0 _ 6 88 Tryz.underlying26 HII.out HZ0.out HZ1.out HZ2.out rfl (by omega) (.slice pa pl pc) its.length xs (by rfl) hx ⟨w5.heap.size,0,none⟩ 1 1 [.int .i64 v.kind,.int .i64 v.num,.float .f64 v.flt,.string ⟨v.str.toArray⟩,.slice na nl nc,.slice ia il ic] (by rfl) (by rfl) (World.news_of_block (cs:=#[.int .i64 v.kind,.int .i64 v.num,.float .f64 v.flt,.string ⟨v.str.toArray⟩,.slice na nl nc,.slice ia il ic]) (t:=28) (fr:=(0,0)) (heap_alloc_new w5 _)) (by simp[Value.oneCell']) (by omega) (by unfold maxLen;omega) (by omega) (by have:=G2.size;simp at this ⊢;omega) (w5.heap.size+1) (by simp) ?_;intro g2 cap2 u5 hown5 hgrow5 hat5 hlt5;have hrF:=hrA.item hx (by rfl) hvA hown5 hgrow5 hat5 (by simp);have hnO:∀ k,k≤Q→some k≠Value.ownBlock (.slice pa pl pc):=fun k hk e=>absurd (own_lt hx e.symm).1 (Nat.not_le_of_lt (Nat.lt_succ_of_le hk));have g4:=(hgrow5.block Q (Nat.lt_of_lt_of_le (lt_of_block g5) (by simp)) (hnO Q (Nat.le_refl _))).trans ((Lib.alloc_old w5 _ Q (lt_of_block g5)).trans g5);have gp4:=(hgrow5.block P (Nat.lt_of_lt_of_le (lt_of_block gp5) (by simp)) (hnO P (by omega))).trans ((Lib.alloc_old w5 _ P (lt_of_block gp5)).trans gp5);obtain⟨k4,z4⟩:=HK.out _ g4)))
     all_goals
      go_wp2_with fail
      have hbu:b<w5.heap.size:=G1.lt;have F7:=(Fr.refl [Q] u5).setCell ⟨Q,5,none⟩ (by simp) (.slice (some ⟨g2,0,none⟩) (its.length+1) cap2);have g7:(u5.setCell ⟨Q,5,none⟩ (.slice (some ⟨g2,0,none⟩) (its.length+1) cap2)).heap[Q]?=some (.cells #[.int .i64 6,.int .i64 0,.float .f64 0,.string ⟨#[]⟩,.slice (some ⟨g,0,none⟩) (i+1) cap,.slice (some ⟨g2,0,none⟩) (its.length+1) cap2] 28 (0,0)):=heap_setN g4 5 _;have gp7:=F7.at gp4 (by simp;omega);have b7:=(G1.same ((hgrow5.block b (Nat.lt_of_lt_of_le hbu (by simp)) (hnO b (by omega))).trans (Lib.alloc_old w5 (.cells #[.int .i64 v.kind,.int .i64 v.num,.float .f64 v.flt,.string ⟨v.str.toArray⟩,.slice na nl nc,.slice ia il ic] 28) b hbu))).kept F7 (by simpa using hbQ);have A5:Fr [b,P,Q] w (w5.alloc (.cells #[.int .i64 v.kind,.int .i64 v.num,.float .f64 v.flt,.string ⟨v.str.toArray⟩,.slice na nl nc,.slice ia il ic] 28)):=(WA.drew.trans (G2.mono (by simp))).alloc _;have fg:Fr [b,P,Q] w u5:=⟨hgrow5.os.trans A5.os,hgrow5.tape.trans A5.tape,hgrow5.output.trans A5.output,Nat.le_trans A5.size hgrow5.size,fun k hk hn=>(hgrow5.block k (Nat.lt_of_lt_of_le hk A5.size) (hnO k (by have:=HP.out;omega))).trans (A5.block k hk hn)⟩;have r7:Rows Q (g0+1) (ns++[a]) (its++[v]) (.slice (some ⟨g,0,none⟩) (i+1) cap) (.slice (some ⟨g2,0,none⟩) (its.length+1) cap2) (u5.setCell ⟨Q,5,none⟩ (.slice (some ⟨g2,0,none⟩) (its.length+1) cap2)):=hrF.far (b:=Q) F7.grown (Nat.le_refl _);rw[HIL.out]at b7 g7 F7 r7 gp7;go_roundw
      case rel=>exact⟨i+1,q2,(ns++[a]),its++[v],_,_,st2,by omega,by go_num,by simp;exact HIL.out,by simp;exact HNL.out,HNA.out,b7,HQ2.out _ _ _ hres,g7,gp7,fg.trans (F7.mono (by simp)),r7,HInv.out _ _ _ hres⟩
      case measure=>simp[intOf];omega
   ·have t7:decide ((i:Int)<(N:Int))=false:=by simp;omega
    have hE2:I=preI ns its (rdItems (rdV g0) true (N - i) q l):=hE;rw[show N - i=0 by omega,rdItems]at hE2;simp only[preI,List.append_nil]at hE2;have hn1:ns.length≤1000:=by omega
    have hnode:=hrow.node (K:=6) (by omega) hn1 (fun s hs=>Nat.le_trans (hna s hs) (by omega)) (by omega);have HN:=zh (show R=some (.mk 6 0 0 [] ns its,q,l) from by rw[HR0.out,hE2];rfl);clear g1' g2' hE hE2 hr2;go_upto_region 32 with (fail)
    clear c0 c2 c4 c5;obtain⟨q0,q1,q2,q3,q4,q5⟩:=cells6 hgr;have e0:wr.cell? ⟨P,0,none⟩=some (.int .i64 0):=by rw[zc hgp];rfl
    have z0:wr.frozen? ⟨P,0,none⟩=false:=Lib.frozen_of_heap hgp 0;have e1:wr.cell? ⟨P,1,none⟩=some (.int .i64 0):=by rw[zc hgp];rfl
    have z1:wr.frozen? ⟨P,1,none⟩=false:=Lib.frozen_of_heap hgp 1;have e2:wr.cell? ⟨P,2,none⟩=some (.float .f64 0):=by rw[zc hgp];rfl
    have z2:wr.frozen? ⟨P,2,none⟩=false:=Lib.frozen_of_heap hgp 2;have e3:wr.cell? ⟨P,3,none⟩=some (.string ⟨#[]⟩):=by rw[zc hgp];rfl
    have z3:wr.frozen? ⟨P,3,none⟩=false:=Lib.frozen_of_heap hgp 3;have e4:wr.cell? ⟨P,4,none⟩=some (.slice none 0 0):=by rw[zc hgp];rfl
    have z4:wr.frozen? ⟨P,4,none⟩=false:=Lib.frozen_of_heap hgp 4;have e5:wr.cell? ⟨P,5,none⟩=some (.slice none 0 0):=by rw[zc hgp];rfl
    have z5:wr.frozen? ⟨P,5,none⟩=false:=Lib.frozen_of_heap hgp 5;go_wp2_with fail
    have hgF:(((((((wr).setCell ⟨P,0,none⟩ (.int .i64 6)).setCell ⟨P,1,none⟩ (.int .i64 0)).setCell ⟨P,2,none⟩ (.float .f64 0)).setCell ⟨P,3,none⟩ (.string ⟨#[]⟩)).setCell ⟨P,4,none⟩ (.slice qa ql qc)).setCell ⟨P,5,none⟩ (.slice pa pl pc)).heap[P]?=some (.cells #[.int .i64 6,.int .i64 0,.float .f64 0,.string ⟨#[]⟩,.slice qa ql qc,.slice pa pl pc] 28 (0,0)):=heap_setN (heap_setN (heap_setN (heap_setN (heap_setN (heap_setN hgp 0 _) 1 _) 2 _) 3 _) 4 _) 5 _;have FF:=((((((Fr.refl [P] wr).setCell ⟨P,0,none⟩ (by simp) (.int .i64 6)).setCell ⟨P,1,none⟩ (by simp) (.int .i64 0)).setCell ⟨P,2,none⟩ (by simp) (.float .f64 0)).setCell ⟨P,3,none⟩ (by simp) (.string ⟨#[]⟩)).setCell ⟨P,4,none⟩ (by simp) (.slice qa ql qc)).setCell ⟨P,5,none⟩ (by simp) (.slice pa pl pc);clear e0 z0 q0 e1 z1 q1 e2 z2 q2 e3 z3 q3 e4 z4 q4 e5 z5 q5;generalize ((((((wr).setCell ⟨P,0,none⟩ (.int .i64 6)).setCell ⟨P,1,none⟩ (.int .i64 0)).setCell ⟨P,2,none⟩ (.float .f64 0)).setCell ⟨P,3,none⟩ (.string ⟨#[]⟩)).setCell ⟨P,4,none⟩ (.slice qa ql qc)).setCell ⟨P,5,none⟩ (.slice pa pl pc)=X at *;obtain⟨y0,y1,y2,y3,y4,y5⟩:=cells6 hgF;have hrX:=RdAt.kept hbr FF (by simpa using hbP);have hff:=(Ar.trans (FF.mono (m:=[b,P,Q]) (by simp))).fewer3 (by have:=HP.out;omega) (by have:=HP.out;omega);refine bodyPost_ret (v:=.agg #[.int .i64 6,.int .i64 0,.float .f64 0,.string ⟨#[]⟩,.slice qa ql qc,.slice pa pl pc]) (by simp[results,Tryz.results129,go_sem,y0,y1,y2,y3,y4,y5]) rfl ?_;exact⟨.mk 6 0 0 [] ns its,_,q,some l,rfl,hnode.kept FF.size (fun g hg hl=>⟨by have:=HP.out;omega,FF.block g hl (by simp;omega)⟩),hrX,hff,by rw[HN.out];exact⟨rfl,rfl,rfl⟩⟩
end
section
open Go.RowKit
theorem begR_none {dn p:Nat} {st:Option (List UInt8)} (h:12<dn∨200<p+1):begR dn p st=none:=by unfold begR;rw[if_pos h]
theorem begR_st {dn p:Nat} {st:Option (List UInt8)} (h:¬ (12<dn∨200<p+1)):begR dn p st=st:=by unfold begR;rw[if_neg h]
theorem match_items {k:Int} {l:List UInt8} {rv:Nat→List UInt8→Option (VT × Nat × List UInt8)} {named:Bool} {p:Nat} :
  ((rdMany l).bind fun r=>(rdItems rv named r.1 p r.2).map fun c=>((.mk k 0 0 [] c.1 c.2.1:VT),c.2.2)) =
   (match rdU l with
     | none=>none
     | some r=>if 200<r.1 then none else
       match rdItems rv named r.1 p r.2 with
       | none=>none
       | some c=>some (.mk k 0 0 [] c.1 c.2.1,c.2.2)):=by
 unfold rdMany;cases rdU l with
 | none=>rfl
 | some r =>
  show((if 200<r.1 then none else some r:Option (Nat × List UInt8)).bind fun r=>(rdItems rv named r.1 p r.2).map fun c=>((.mk k 0 0 [] c.1 c.2.1:VT),c.2.2))=if 200<r.1 then none else
       match rdItems rv named r.1 p r.2 with
       | none=>none
       | some c=>some (.mk k 0 0 [] c.1 c.2.1,c.2.2)
  by_cases h:200<r.1
  ·rw[if_pos h,if_pos h];rfl
  ·rw[if_neg h,if_neg h];show(rdItems rv named r.1 p r.2).map _=_;cases rdItems rv named r.1 p r.2<;>rfl
theorem rdV_none {f p:Nat} {st:Option (List UInt8)} {dn:Nat} (hd:dn+f=13) (h:12<dn∨200<p+1):st.bind (rdV f p)=none:=by
 cases st with
 | none=>rfl
 | some l =>
  show rdV f p l=none;cases f with
  | zero=>rw[rdV]
  | succ f=>rw[rdV.eq_def];dsimp only;rw[if_pos (by omega)]
theorem rdsV_all (s:ByteArray) (hs:s.size≤1000000) (b:Nat):∀ g,g≤13→RdsV s b g:=fun g=>by
 induction g with
 | zero =>
  intro _ dn st p w hd hp h;have hR:=rdV_none (f:=0) (p:=p) (st:=st) hd (.inl (by omega));rw[hR];exact rvalue_no s hs b st p 0 dn 0 hp none (by rw[begR_none (.inl (by omega))];rfl) (by omega) (.inl rfl) w h
 | succ g ih =>
  intro hg dn st p w hd hp h;have ih:=ih (by omega);by_cases hbg:12<dn∨200<p+1
  ·have hR:=rdV_none (f:=g+1) (p:=p) (st:=st) hd hbg;rw[hR];exact rvalue_no s hs b st p (g+1) dn 0 hp none (by rw[begR_none hbg];rfl) (by omega) (.inl rfl) w h
  ·have hb:=begR_st (st:=st) hbg;cases st with
   | none=>exact rvalue_no s hs b none p (g+1) dn 0 hp none (by rw[hb];rfl) (by omega) (.inl rfl) w h
   | some l0 =>
    cases l0 with
    | nil =>
     have hR:(some ([]:List UInt8)).bind (rdV (g+1) p)=none:=by
      show rdV (g+1) p []=none;rw[rdV.eq_def];dsimp only;rw[if_neg (by omega)]
     rw[hR];exact rvalue_no s hs b (some []) p (g+1) dn 0 hp none (by rw[hb];rfl) (by omega) (.inl rfl) w h
    | cons c l =>
     have hkc:outR 0 ((begR dn p (some (c::l))).bind byteR)=(c.toNat,some l):=by rw[hb];rfl
     have hc:=c.toNat_lt;have hR:(some (c::l)).bind (rdV (g+1) p)=rdV (g+1) p (c::l):=rfl;rw[hR,rdV_step c l (by omega)];by_cases k1:c.toNat=1
     ·rw[if_pos k1];rw[k1]at hkc;have hv:=rvalue_1 s hs b _ p (g+1) dn hp l hkc w h;cases hr:rdBool l with
      | none=>rw[hr]at hv;exact hv
      | some r=>rw[hr]at hv;exact hv
     rw[if_neg k1];by_cases k2:c.toNat=2
     ·rw[if_pos k2];rw[k2]at hkc;have hv:=rvalue_2 s hs b _ p (g+1) dn hp l hkc w h;cases hr:rdInt l with
      | none=>rw[hr]at hv;exact hv
      | some r=>rw[hr]at hv;exact hv
     rw[if_neg k2];by_cases k3:c.toNat=3
     ·rw[if_pos k3];rw[k3]at hkc;have hv:=rvalue_3 s hs b _ p (g+1) dn hp l hkc w h;cases hr:rdFlt l with
      | none=>rw[hr]at hv;exact hv
      | some r=>rw[hr]at hv;exact hv
     rw[if_neg k3];by_cases k4:c.toNat=4
     ·rw[if_pos k4];rw[k4]at hkc;have hv:=rvalue_4 s hs b _ p (g+1) dn hp l hkc w h;cases hr:rdStr 200 l with
      | none=>rw[hr]at hv;exact hv
      | some r=>rw[hr]at hv;exact hv
     rw[if_neg k4];by_cases k5:c.toNat=5
     ·rw[if_pos (.inl k5)];rw[k5]at hkc ⊢
      have hv:=rvalue_5 s hs b _ p g dn hd hp (by omega) l hkc ih w h;rw[match_items]at hv;exact hv
     by_cases k6:c.toNat=6
     ·rw[if_pos (.inr k6)];rw[k6]at hkc ⊢
      have hv:=rvalue_6 s hs b _ p g dn hd hp (by omega) l hkc ih w h;rw[match_items]at hv;exact hv
     rw[if_neg (by omega)];exact rvalue_no s hs b _ p (g+1) dn c.toNat hp (some l) hkc (by omega) (.inr (by omega)) w h
end
end Go.Proofs.YtepaaochgljcdaaGreatDoor
