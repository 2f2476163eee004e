/-
  Tj, Tp, Tq in one text.
-/
import Derived.Lib.AppendZerosOnto
import Derived.Shelf.Spec.SlicesInsert
import Derived.Test.YtaaaaggmhjhkkaaGreatDoorS26
import Derived.Test.YtaaaaggmhjhkkaaGreatDoorCl
set_option maxRecDepth 100000
set_option maxHeartbeats 8000000
namespace Go.Proofs.YtaaaaggmhjhkkaaGreatDoor
section
open Go.RowKit
theorem nameK_far {b en dp:Nat} {r q:List Tk} {w:World} (hp:PsAt b en dp r w) (hs:q <:+ r) {y:List UInt8 × List Tk} (h:nameK q=some y):y.1.length≤10000:=by
 cases q with
 | nil=>cases h
 | cons t q =>
  rw[nameK]at h;split at h
  ·cases h
   obtain⟨_,_,v,⟨_,hok,_⟩,_⟩:=hp;exact(hok t (hs.subset (by simp))).2.2.1
  ·cases h
/-- one kid, and a text -/
theorem ExIn.oneS {S:Nat→Prop} {w:World} {d:Nat} {x:ET} {cs:Array Value} (k:Int) (s:List UInt8) (hk : -9223372036854775808≤k∧k≤9223372036854775807) (hs:s.length≤140737488355328) (h:ExIn S w d x cs) {g:Nat} {T:TypeId} {fz:Nat × Nat} (hS:S g) (hg:w.heap[g]?=some (.cells cs T fz)) :
  ExIn S w (d+1) (.mk k s noVT [] [x]) #[.int .i64 k,.string ⟨s.toArray⟩,.int .i64 0,.int .i64 0,.float .f64 0,.string ⟨#[]⟩,.slice none 0 0,.slice none 0 0,.slice none 0 0,.slice (some ⟨g,0,none⟩) 1 1] :=
 ExIn.node k s hk hs [x] (by simp) hS (lt_of_block hg) fun i hi=>by
  obtain rfl:i=0:=by simpa using hi
  exact⟨cs,h,fun j _=>by rw[zc hg];simp⟩
/-- two kids -/
theorem ExIn.two {S:Nat→Prop} {w:World} {d e:Nat} {x y:ET} {a0 a1 a2 a3 a4 a5 a6 a7 a8 a9 b0 b1 b2 b3 b4 b5 b6 b7 b8 b9:Value} (k:Int) (hk : -9223372036854775808≤k∧k≤9223372036854775807) (h:ExIn S w d x #[a0,a1,a2,a3,a4,a5,a6,a7,a8,a9]) (h':ExIn S w e y #[b0,b1,b2,b3,b4,b5,b6,b7,b8,b9]) {g:Nat} {T:TypeId} {fz:Nat × Nat} (hS:S g) (hg:w.heap[g]?=some (.cells #[a0,a1,a2,a3,a4,a5,a6,a7,a8,a9,b0,b1,b2,b3,b4,b5,b6,b7,b8,b9] T fz)) :
  ExIn S w (d+e+1) (twoE k x y) #[.int .i64 k,.string ⟨#[]⟩,.int .i64 0,.int .i64 0,.float .f64 0,.string ⟨#[]⟩,.slice none 0 0,.slice none 0 0,.slice none 0 0,.slice (some ⟨g,0,none⟩) 2 2] :=
 ExIn.node k [] hk zero_le [x,y] (by simp) hS (lt_of_block hg) fun i hi=>by
  have hi:i<2:=hi;rcases(by omega:i=0∨i=1)with rfl|rfl
  ·refine⟨_,h.upto (by omega),fun j hj=>?_⟩;rw[zc hg];rcases(by omega:j=0∨j=1∨j=2∨j=3∨j=4∨j=5∨j=6∨j=7∨j=8∨j=9)with rfl|rfl|rfl|rfl|rfl|rfl|rfl|rfl|rfl|rfl<;>rfl
  ·refine⟨_,h'.upto (by omega),fun j hj=>?_⟩;rw[zc hg];rcases(by omega:j=0∨j=1∨j=2∨j=3∨j=4∨j=5∨j=6∨j=7∨j=8∨j=9)with rfl|rfl|rfl|rfl|rfl|rfl|rfl|rfl|rfl|rfl<;>rfl
/-- how many tokens are left -/
def lenP (b:Nat) (w:World):Nat:=match w.cell? ⟨b,0,none⟩ with|some (.slice _ n _)=>n|_=>0
theorem PsAt.len {b en dp:Nat} {r:List Tk} {w:World} (h:PsAt b en dp r w):lenP b w=r.length:=by
 obtain⟨_,_,v,⟨_,_,p,cap,rfl,_⟩,hb⟩:=h;unfold lenP;rw[zc hb];rfl
/-- what a reading carries from round to round: res is still what f rounds more make of x and of what is left -/
def PostRel (G:Nat→ET→List Te→PR) (b en dp:Nat) (r:List Tk) (w:World) (X:Nat) (res:PR) (wr:World):Prop :=
 ∃ (q:List Tk) (x:ET) (cs:Array Value) (d f:Nat),q.length<f∧Hid (res=G f x (q.map Tk.te))∧q <:+ r∧PsAt b en dp q wr∧Fr [b] w wr∧wr.heap[w.heap.size]?=some (.cells #[.int .i64 0,.string ⟨#[]⟩,.int .i64 0,.int .i64 0,.float .f64 0,.string ⟨#[]⟩,.slice none 0 0,.slice none 0 0,.slice none 0 0,.slice none 0 0] 29 (0,0))∧wr.heap[X]?=some (.cells cs 29 (0,0))∧ExIn (fun g=>w.heap.size<g∧g≠X) wr d x cs
theorem ppost_any (E:List Te→PR) (b en dp:Nat) (HE:ReadsE 32 E b en dp) (HP:ReadsE 151 (primF E) b en dp):ReadsE 117 (postF E) b en dp:=fun r w h=>by
 have hsf:∀ (a:Addr) (x:Nat) (m:Mode) (w:World),(store a (.float .f64 x) m).run Tryz.prog w=stored Tryz.prog w a (.float .f64 x) m:=fun a x m w=>run_store _ w a _ m rfl
 have hA0:Below w.heap.size w (w.alloc (.cells #[.int .i64 0,.string ⟨#[]⟩,.int .i64 0,.int .i64 0,.float .f64 0,.string ⟨#[]⟩,.slice none 0 0,.slice none 0 0,.slice none 0 0,.slice none 0 0] 29)):=(Below.refl _ _).alloc (Nat.le_refl _) _;have hR0:=heap_alloc_new w (.cells #[.int .i64 0,.string ⟨#[]⟩,.int .i64 0,.int .i64 0,.float .f64 0,.string ⟨#[]⟩,.slice none 0 0,.slice none 0 0,.slice none 0 0,.slice none 0 0] 29);have hp0:=h.below hA0;have hlt:=h.lt;have hne:w.heap.size≠b:=by omega
 have hs0:(w.alloc (.cells #[.int .i64 0,.string ⟨#[]⟩,.int .i64 0,.int .i64 0,.float .f64 0,.string ⟨#[]⟩,.slice none 0 0,.slice none 0 0,.slice none 0 0,.slice none 0 0] 29)).heap.size=w.heap.size+1:=by simp
 have HS0:=zh hs0;clear hs0;have HEx:=zh HE;have HPr:=zh (HP r _ hp0);clear HE HP;rcases he:primF E (r.map Tk.te)with er|⟨x,l⟩
 ·have hW:postF E (r.map Tk.te)=.error er:=by unfold postF;rw[he]
  have HW:=zh hW;have HEE:=zh he;clear hW he;go_in;go_wp2_with fail
  refine(HPr.out).mono ?_;intro e w1 h1;obtain⟨x,n,rfl,h1,hf1⟩:=PrPost.bad_out HEE.out h1;exact⟨rfl,PrPost.bad HW.out h1 ((Fr.of_below hA0).trans hf1)⟩
 ·have hW:postF E (r.map Tk.te)=postL E (l.length+1) x l:=by unfold postF;rw[he]
  generalize hres:postF E (r.map Tk.te)=res at *;have HW:=zh hW;have HEE:=zh he;clear hW he hres;go_in;go_wp2_with fail
  refine(HPr.out).mono ?_;intro e w1 h1;obtain⟨na,nl,nc,ia,il,ic,ma,ml,mc,ka,kl,kc,d,r1,rfl,hx,hs1,hl1,hp1,hf1⟩:=PrPost.good_out HEE.out h1;have hR1:=hf1.at hR0 (by simpa using hne);have hw1:Fr [b] w w1:=(Fr.of_below hA0).trans hf1;have hRl1:=lt_of_block hR1;have hb2:=(Below.refl w1.heap.size w1).alloc (Nat.le_refl _) (.cells #[.int .i64 x.kind,.string ⟨x.str.toArray⟩,.int .i64 x.v.kind,.int .i64 x.v.num,.float .f64 x.v.flt,.string ⟨x.v.str.toArray⟩,.slice na nl nc,.slice ia il ic,.slice ma ml mc,.slice ka kl kc] 29);have hX2:=heap_alloc_new w1 (.cells #[.int .i64 x.kind,.string ⟨x.str.toArray⟩,.int .i64 x.v.kind,.int .i64 x.v.num,.float .f64 x.v.flt,.string ⟨x.v.str.toArray⟩,.slice na nl nc,.slice ia il ic,.slice ma ml mc,.slice ka kl kc] 29);have hs10:w.heap.size+1≤w1.heap.size:=by omega
  have hrel0:PostRel (postL E) b en dp r w w1.heap.size res (w1.alloc (.cells #[.int .i64 x.kind,.string ⟨x.str.toArray⟩,.int .i64 x.v.kind,.int .i64 x.v.num,.float .f64 x.v.flt,.string ⟨x.v.str.toArray⟩,.slice na nl nc,.slice ia il ic,.slice ma ml mc,.slice ka kl kc] 29)):=by
   refine⟨r1,x,_,d,l.length+1,by rw[←hl1];simp,zh (by rw[hl1];exact HW.out),hs1,hp1.below hb2,hw1.grow hw1.size hb2,(hb2.block _ hRl1).trans hR1,hX2,?_⟩;refine(hx.kept (T:=fun g=>w.heap.size<g∧g≠w1.heap.size) (Nat.le_refl _) (fun g hg hl=>⟨⟨?_,by omega⟩,rfl⟩)).below hb2;rw[HS0.out]at hg;omega
  go_wp2_with fail
  clear HW HEE hx hX2 hb2 hp1 hR1 hw1 hf1 hR0 hp0 HPr hA0 HS0 hl1 hs1;generalize w1.heap.size=X at *;have hneX:X≠b:=by omega
  have hneR:¬ X=w.heap.size:=by omega
  have hrel0:=zh hrel0;generalize w1.alloc (.cells #[.int .i64 x.kind,.string ⟨x.str.toArray⟩,.int .i64 x.v.kind,.int .i64 x.v.num,.float .f64 x.v.flt,.string ⟨x.v.str.toArray⟩,.slice na nl nc,.slice ia il ic,.slice ma ml mc,.slice ka kl kc] 29)=w2 at *;clear hRl1;go_loopw [] (fun wr=>PostRel (postL E) b en dp r w X res wr) (fun wr=>lenP b wr)
  case atStart=>exact hrel0.out
  case round =>
   clear hrel0;obtain⟨q,x,cs,d,f,hfq,hR',hq,hp,hfr,hR,hX,hx⟩:=hrel;obtain⟨na,nl,nc,ia,il,ic,ma,ml,mc,ka,kl,kc,rfl⟩:=hx.ten;obtain⟨f,rfl⟩:∃ g,f=g+1:=⟨f - 1,by omega⟩;have hLen:=zh hp.len;have hAt:Below wr.heap.size wr (wr.alloc (.cells #[.string ⟨#[46]⟩,.string ⟨#[91]⟩] 9)):=(Below.refl _ _).alloc (Nat.le_refl _) _;have hg1:=heap_alloc_new wr (.cells #[.string ⟨#[46]⟩,.string ⟨#[91]⟩] 9);have hpt:=hp.below hAt;have hft:=hfr.grow hfr.size hAt;have hRt:=(hAt.block _ (lt_of_block hR)).trans hR;have hXt:=(hAt.block _ (lt_of_block hX)).trans hX;have hxt:=hx.below hAt;have hcl:=take_in (sg:=[[46],[91]]) hg1 rfl;rcases hk:takeK [[46],[91]] q with _|⟨i,q1⟩
   ·have HT:=zh (ptake_no (sg:=[[46],[91]]) wr.heap.size 0 2 (by simp) hpt (lt_of_block hg1) hcl hk);have HRes:=zh (hR'.out.trans (postL_n (E:=E) (n:=f) (x:=x) (by rw[takeK_eq,hk];rfl)));clear hk hR';go_wp2_with fail
    refine(HT.out).mono ?_;rintro e w3 ⟨rfl,hp3,hf3⟩;have hR3:=hf3.at hRt (by simpa using hne);have hX3:=hf3.at hXt (by simpa using hneX);have hx3:=hxt.fr hf3 (by simp;omega);have hw3:=hft.trans hf3;have hRl3:=lt_of_block hR3;have hXl3:=lt_of_block hX3;clear hAt hg1 hpt hft hRt hXt hxt hcl;obtain⟨c0,c1,c2,c3,c4,c5,c6,c7,c8,c9⟩:=cellsO10 hX3;obtain⟨u0,u1,u2,u3,u4,u5,u6,u7,u8,u9⟩:=free10 hX3;obtain⟨x0,x1,x2,x3,x4,x5,x6,x7,x8,x9⟩:=cellsO10 hR3;obtain⟨z0,z1,z2,z3,z4,z5,z6,z7,z8,z9⟩:=free10 hR3;go_wp2_with fail
    obtain⟨hst,hff⟩:=put10 hR3 (.int .i64 x.kind) (.string ⟨x.str.toArray⟩) (.int .i64 x.v.kind) (.int .i64 x.v.num) (.float .f64 x.v.flt) (.string ⟨x.v.str.toArray⟩) (.slice na nl nc) (.slice ia il ic) (.slice ma ml mc) (.slice ka kl kc);generalize ((((((((((w3).setCell ⟨w.heap.size,0,none⟩ (.int .i64 x.kind)).setCell ⟨w.heap.size,1,none⟩ (.string ⟨x.str.toArray⟩)).setCell ⟨w.heap.size,2,none⟩ (.int .i64 x.v.kind)).setCell ⟨w.heap.size,3,none⟩ (.int .i64 x.v.num)).setCell ⟨w.heap.size,4,none⟩ (.float .f64 x.v.flt)).setCell ⟨w.heap.size,5,none⟩ (.string ⟨x.v.str.toArray⟩)).setCell ⟨w.heap.size,6,none⟩ (.slice na nl nc)).setCell ⟨w.heap.size,7,none⟩ (.slice ia il ic)).setCell ⟨w.heap.size,8,none⟩ (.slice ma ml mc)).setCell ⟨w.heap.size,9,none⟩ (.slice ka kl kc)=Z at *;obtain⟨y0,y1,y2,y3,y4,y5,y6,y7,y8,y9⟩:=cellsO10 hst;refine bodyPost_ret (v:=.agg #[.int .i64 x.kind,.string ⟨x.str.toArray⟩,.int .i64 x.v.kind,.int .i64 x.v.num,.float .f64 x.v.flt,.string ⟨x.v.str.toArray⟩,.slice na nl nc,.slice ia il ic,.slice ma ml mc,.slice ka kl kc]) (by simp[results,Tryz.results117,go_sem,y0,y1,y2,y3,y4,y5,y6,y7,y8,y9]) rfl ?_;have hzB:Below w.heap.size w3 Z:=hff.below hw3.size (by simp);exact PrPost.good HRes.out ((hx3.fr hff (by simp)).wider (fun g hg=>Nat.le_of_lt hg.1)) hq (hp3.fr hff (by simp;omega)) (hw3.lower hzB)
   ·have hi:i<2:=takeK_lt hk;have hsq:=takeK_suf hk;have hs1:=hsq.1;have hl1:=hsq.2;have HT:=zh (ptake_yes (sg:=[[46],[91]]) wr.heap.size 0 2 (by simp) hpt (lt_of_block hg1) hcl hk);dsimp only at hs1 hl1 HT;clear hsq;rcases(by omega:i=0∨i=1)with rfl|rfl
    ·have hres:=hR'.out.trans (postL_0 (E:=E) (n:=f) (x:=x) (q:=q1.map Tk.te) (by rw[takeK_eq,hk];rfl));rw[nameK_eq]at hres;clear hk hR';rcases hn:nameK q1 with _|⟨s,q2⟩
     ·rw[hn]at hres;have HRes:=zh hres;have HNm:=zh (fun w' h=>pname_no (b:=b) (en:=en) (dp:=dp) (w:=w') h hn);clear hn hres;go_wp2_with fail
      refine(HT.out).mono ?_;rintro e w3 ⟨rfl,hp3,hf3⟩;have hR3:=hf3.at hRt (by simpa using hne);have hX3:=hf3.at hXt (by simpa using hneX);have hx3:=hxt.fr hf3 (by simp;omega);have hw3:=hft.trans hf3;have hRl3:=lt_of_block hR3;have hXl3:=lt_of_block hX3;clear hAt hg1 hpt hft hRt hXt hxt hcl;obtain⟨c0,c1,c2,c3,c4,c5,c6,c7,c8,c9⟩:=cellsO10 hX3;obtain⟨u0,u1,u2,u3,u4,u5,u6,u7,u8,u9⟩:=free10 hX3;have hbk:Below w3.heap.size w3 (w3.alloc (.cells #[.int .i64 x.kind,.string ⟨x.str.toArray⟩,.int .i64 x.v.kind,.int .i64 x.v.num,.float .f64 x.v.flt,.string ⟨x.v.str.toArray⟩,.slice na nl nc,.slice ia il ic,.slice ma ml mc,.slice ka kl kc] 29)):=(Below.refl _ _).alloc (Nat.le_refl _) _;go_wp2_with fail
      go_region_law (first
       | ((go_simp;go_at_call 152;(with_reducible refine dies_way ((HNm.out _ ((hp3.below hbk).drew)).mono ?_) (.string ⟨#[]⟩) (fun hF=>?_));(rintro e w4 ⟨rfl,hf4⟩;exact⟨rfl,PrPost.bad HRes.out ((ErrAt.here en q1).up (hs1.trans hq)) ((hw3.trans (Fr.of_below hbk)).drew.trans hf4)⟩);dsimp only))
       | ((go_simp;go_at_call 152;(with_reducible refine dies_way ((HNm.out _ hp3.drew).mono ?_) (.string ⟨#[]⟩) (fun hF=>?_));(rintro e w4 ⟨rfl,hf4⟩;exact⟨rfl,PrPost.bad HRes.out ((ErrAt.here en q1).up (hs1.trans hq)) (hw3.drew.trans hf4)⟩);dsimp only)))
      all_goals exact hF.out.elim
     ·rw[hn]at hres;dsimp only at hres;have HRes:=zh hres;have hns:=nameK_suf hn;have HNm:=zh (fun w' h=>pname_yes (b:=b) (en:=en) (dp:=dp) (w:=w') h hn);have hsl:s.length≤10000:=nameK_far hp hs1 hn;dsimp only at hns HNm;clear hn hres;go_wp2_with fail
      refine(HT.out).mono ?_;rintro e w3 ⟨rfl,hp3,hf3⟩;have hR3:=hf3.at hRt (by simpa using hne);have hX3:=hf3.at hXt (by simpa using hneX);have hx3:=hxt.fr hf3 (by simp;omega);have hw3:=hft.trans hf3;have hRl3:=lt_of_block hR3;have hXl3:=lt_of_block hX3;clear hAt hg1 hpt hft hRt hXt hxt hcl;obtain⟨c0,c1,c2,c3,c4,c5,c6,c7,c8,c9⟩:=cellsO10 hX3;obtain⟨u0,u1,u2,u3,u4,u5,u6,u7,u8,u9⟩:=free10 hX3;have hbk:Below w3.heap.size w3 (w3.alloc (.cells #[.int .i64 x.kind,.string ⟨x.str.toArray⟩,.int .i64 x.v.kind,.int .i64 x.v.num,.float .f64 x.v.flt,.string ⟨x.v.str.toArray⟩,.slice na nl nc,.slice ia il ic,.slice ma ml mc,.slice ka kl kc] 29)):=(Below.refl _ _).alloc (Nat.le_refl _) _;have hk3:=heap_alloc_new w3 (.cells #[.int .i64 x.kind,.string ⟨x.str.toArray⟩,.int .i64 x.v.kind,.int .i64 x.v.num,.float .f64 x.v.flt,.string ⟨x.v.str.toArray⟩,.slice na nl nc,.slice ia il ic,.slice ma ml mc,.slice ka kl kc] 29);go_wp2_with fail
      go_region_law (first
       | ((go_simp;go_at_call 152;(with_reducible refine(HNm.out _ hp3.drew).mono ?_);rintro e w4 ⟨rfl,hp4,hf4⟩;have hX4:=hf4.at (show w3.drew.heap[X]?=_ from hX3) (by simpa using hneX);obtain⟨k0,k1,k2,k3,k4,k5,k6,k7,k8,k9⟩:=cellsO10 hX4;obtain⟨v0,v1,v2,v3,v4,v5,v6,v7,v8,v9⟩:=free10 hX4;have hbk4:=(Below.refl w4.heap.size w4).alloc (Nat.le_refl _) (.cells #[.int .i64 x.kind,.string ⟨x.str.toArray⟩,.int .i64 x.v.kind,.int .i64 x.v.num,.float .f64 x.v.flt,.string ⟨x.v.str.toArray⟩,.slice na nl nc,.slice ia il ic,.slice ma ml mc,.slice ka kl kc] 29);have hX5:=(hbk4.block _ (lt_of_block hX4)).trans hX4;obtain⟨o0,o1,o2,o3,o4,o5,o6,o7,o8,o9⟩:=cellsO10 hX5;obtain⟨p0,p1,p2,p3,p4,p5,p6,p7,p8,p9⟩:=free10 hX5;dsimp only))
       | ((go_simp;go_at_call 152;(with_reducible refine(HNm.out _ ((hp3.below hbk).drew)).mono ?_);rintro e w4 ⟨rfl,hp4,hf4⟩;have hX4:=hf4.at (show(w3.alloc (.cells #[.int .i64 x.kind,.string ⟨x.str.toArray⟩,.int .i64 x.v.kind,.int .i64 x.v.num,.float .f64 x.v.flt,.string ⟨x.v.str.toArray⟩,.slice na nl nc,.slice ia il ic,.slice ma ml mc,.slice ka kl kc] 29)).drew.heap[X]?=_ from(hbk.block _ hXl3).trans hX3) (by simpa using hneX);obtain⟨k0,k1,k2,k3,k4,k5,k6,k7,k8,k9⟩:=cellsO10 hX4;obtain⟨v0,v1,v2,v3,v4,v5,v6,v7,v8,v9⟩:=free10 hX4;dsimp only)))
      ·have hk5:=heap_alloc_new w4 (.cells #[.int .i64 x.kind,.string ⟨x.str.toArray⟩,.int .i64 x.v.kind,.int .i64 x.v.num,.float .f64 x.v.flt,.string ⟨x.v.str.toArray⟩,.slice na nl nc,.slice ia il ic,.slice ma ml mc,.slice ka kl kc] 29);have hw5:=(hw3.drew.trans hf4).grow (hw3.drew.trans hf4).size hbk4;have hp5:=hp4.below hbk4;have hx5:=(hx3.fr ((Fr.refl [b] w3).drew.trans hf4) (by simp;omega)).below hbk4;have hR5:=(hbk4.block _ (lt_of_block (hf4.at (show w3.drew.heap[w.heap.size]?=_ from hR3) (by simpa using hne)))).trans (hf4.at (show w3.drew.heap[w.heap.size]?=_ from hR3) (by simpa using hne));have hKX:w4.heap.size≠X:=by have:=lt_of_block hX4;omega
       have hKR:w.heap.size<w4.heap.size:=by have:=hf4.size;have e:w3.drew.heap.size=w3.heap.size:=rfl;omega
       have hx6:=ExIn.oneS 18 s (by decide) (by omega) hx5 ⟨hKR,hKX⟩ hk5;obtain⟨hXz,hfz⟩:=put10 hX5 (.int .i64 18) (.string ⟨s.toArray⟩) (.int .i64 0) (.int .i64 0) (.float .f64 0) (.string ⟨#[]⟩) (.slice none 0 0) (.slice none 0 0) (.slice none 0 0) (.slice (some ⟨w4.heap.size,0,none⟩) 1 1);generalize (((((((((((w4.alloc (.cells #[.int .i64 x.kind,.string ⟨x.str.toArray⟩,.int .i64 x.v.kind,.int .i64 x.v.num,.float .f64 x.v.flt,.string ⟨x.v.str.toArray⟩,.slice na nl nc,.slice ia il ic,.slice ma ml mc,.slice ka kl kc] 29))).setCell ⟨X,0,none⟩ (.int .i64 18)).setCell ⟨X,1,none⟩ (.string ⟨s.toArray⟩)).setCell ⟨X,2,none⟩ (.int .i64 0)).setCell ⟨X,3,none⟩ (.int .i64 0)).setCell ⟨X,4,none⟩ (.float .f64 0)).setCell ⟨X,5,none⟩ (.string ⟨#[]⟩)).setCell ⟨X,6,none⟩ (.slice none 0 0)).setCell ⟨X,7,none⟩ (.slice none 0 0)).setCell ⟨X,8,none⟩ (.slice none 0 0)).setCell ⟨X,9,none⟩ (.slice (some ⟨w4.heap.size,0,none⟩) 1 1)=wz at *;go_wp2_with fail
       have hpz:=hp5.fr hfz (by simp;omega);go_roundw
       case rel=>exact⟨q2,.mk 18 s noVT [] [x],_,d+1,f,by omega,HRes,hns.1.trans (hs1.trans hq),hpz,hw5.lower (hfz.below hw5.size (by simp;omega)),hfz.at hR5 (by simp;omega),hXz,hx6.fr hfz (by simp)⟩
       case measure=>rw[hpz.len,hLen.out];omega
      ·have hk5:=heap_alloc_new w4 (.cells #[.int .i64 x.kind,.string ⟨x.str.toArray⟩,.int .i64 x.v.kind,.int .i64 x.v.num,.float .f64 x.v.flt,.string ⟨x.v.str.toArray⟩,.slice na nl nc,.slice ia il ic,.slice ma ml mc,.slice ka kl kc] 29);have hw5:=(hw3.drew.trans hf4).grow (hw3.drew.trans hf4).size hbk4;have hp5:=hp4.below hbk4;have hx5:=(hx3.fr ((Fr.refl [b] w3).drew.trans hf4) (by simp;omega)).below hbk4;have hR5:=(hbk4.block _ (lt_of_block (hf4.at (show w3.drew.heap[w.heap.size]?=_ from hR3) (by simpa using hne)))).trans (hf4.at (show w3.drew.heap[w.heap.size]?=_ from hR3) (by simpa using hne));have hKX:w4.heap.size≠X:=by have:=lt_of_block hX4;omega
       have hKR:w.heap.size<w4.heap.size:=by have:=hf4.size;have e:w3.drew.heap.size=w3.heap.size:=rfl;omega
       have hx6:=ExIn.oneS 18 s (by decide) (by omega) hx5 ⟨hKR,hKX⟩ hk5;obtain⟨hXz,hfz⟩:=put10 hX5 (.int .i64 18) (.string ⟨s.toArray⟩) (.int .i64 0) (.int .i64 0) (.float .f64 0) (.string ⟨#[]⟩) (.slice none 0 0) (.slice none 0 0) (.slice none 0 0) (.slice (some ⟨w4.heap.size,0,none⟩) 1 1);generalize (((((((((((w4.alloc (.cells #[.int .i64 x.kind,.string ⟨x.str.toArray⟩,.int .i64 x.v.kind,.int .i64 x.v.num,.float .f64 x.v.flt,.string ⟨x.v.str.toArray⟩,.slice na nl nc,.slice ia il ic,.slice ma ml mc,.slice ka kl kc] 29))).setCell ⟨X,0,none⟩ (.int .i64 18)).setCell ⟨X,1,none⟩ (.string ⟨s.toArray⟩)).setCell ⟨X,2,none⟩ (.int .i64 0)).setCell ⟨X,3,none⟩ (.int .i64 0)).setCell ⟨X,4,none⟩ (.float .f64 0)).setCell ⟨X,5,none⟩ (.string ⟨#[]⟩)).setCell ⟨X,6,none⟩ (.slice none 0 0)).setCell ⟨X,7,none⟩ (.slice none 0 0)).setCell ⟨X,8,none⟩ (.slice none 0 0)).setCell ⟨X,9,none⟩ (.slice (some ⟨w4.heap.size,0,none⟩) 1 1)=wz at *;go_wp2_with fail
       have hpz:=hp5.fr hfz (by simp;omega);go_roundw
       case rel=>exact⟨q2,.mk 18 s noVT [] [x],_,d+1,f,by omega,HRes,hns.1.trans (hs1.trans hq),hpz,hw5.lower (hfz.below hw5.size (by simp;omega)),hfz.at hR5 (by simp;omega),hXz,hx6.fr hfz (by simp)⟩
       case measure=>rw[hpz.len,hLen.out];omega
      ·have hk5:=hf4.at (show(w3.alloc (.cells #[.int .i64 x.kind,.string ⟨x.str.toArray⟩,.int .i64 x.v.kind,.int .i64 x.v.num,.float .f64 x.v.flt,.string ⟨x.v.str.toArray⟩,.slice na nl nc,.slice ia il ic,.slice ma ml mc,.slice ka kl kc] 29)).drew.heap[w3.heap.size]?=_ from hk3) (by simp;omega);have hw5:=(hw3.trans (Fr.of_below hbk)).drew.trans hf4;have hp5:=hp4;have hx5:=(hx3.below hbk).fr ((Fr.refl [b] (w3.alloc (.cells #[.int .i64 x.kind,.string ⟨x.str.toArray⟩,.int .i64 x.v.kind,.int .i64 x.v.num,.float .f64 x.v.flt,.string ⟨x.v.str.toArray⟩,.slice na nl nc,.slice ia il ic,.slice ma ml mc,.slice ka kl kc] 29))).drew.trans hf4) (by simp;omega);have hR5:=hf4.at (show(w3.alloc (.cells #[.int .i64 x.kind,.string ⟨x.str.toArray⟩,.int .i64 x.v.kind,.int .i64 x.v.num,.float .f64 x.v.flt,.string ⟨x.v.str.toArray⟩,.slice na nl nc,.slice ia il ic,.slice ma ml mc,.slice ka kl kc] 29)).drew.heap[w.heap.size]?=_ from(hbk.block _ (lt_of_block hR3)).trans hR3) (by simpa using hne);have hX5:=hX4;have hKX:w3.heap.size≠X:=by omega
       have hKR:w.heap.size<w3.heap.size:=by omega
       have hx6:=ExIn.oneS 18 s (by decide) (by omega) hx5 ⟨hKR,hKX⟩ hk5;obtain⟨hXz,hfz⟩:=put10 hX5 (.int .i64 18) (.string ⟨s.toArray⟩) (.int .i64 0) (.int .i64 0) (.float .f64 0) (.string ⟨#[]⟩) (.slice none 0 0) (.slice none 0 0) (.slice none 0 0) (.slice (some ⟨w3.heap.size,0,none⟩) 1 1);generalize ((((((((((w4).setCell ⟨X,0,none⟩ (.int .i64 18)).setCell ⟨X,1,none⟩ (.string ⟨s.toArray⟩)).setCell ⟨X,2,none⟩ (.int .i64 0)).setCell ⟨X,3,none⟩ (.int .i64 0)).setCell ⟨X,4,none⟩ (.float .f64 0)).setCell ⟨X,5,none⟩ (.string ⟨#[]⟩)).setCell ⟨X,6,none⟩ (.slice none 0 0)).setCell ⟨X,7,none⟩ (.slice none 0 0)).setCell ⟨X,8,none⟩ (.slice none 0 0)).setCell ⟨X,9,none⟩ (.slice (some ⟨w3.heap.size,0,none⟩) 1 1)=wz at *;go_wp2_with fail
       have hpz:=hp5.fr hfz (by simp;omega);go_roundw
       case rel=>exact⟨q2,.mk 18 s noVT [] [x],_,d+1,f,by omega,HRes,hns.1.trans (hs1.trans hq),hpz,hw5.lower (hfz.below hw5.size (by simp;omega)),hfz.at hR5 (by simp;omega),hXz,hx6.fr hfz (by simp)⟩
       case measure=>rw[hpz.len,hLen.out];omega
    ·have hres:=hR'.out.trans (postL_1 (E:=E) (n:=f) (x:=x) (q:=q1.map Tk.te) (by rw[takeK_eq,hk];rfl));clear hk hR';rcases he:E (q1.map Tk.te)with er|⟨y,l2⟩
     ·rw[he]at hres;have HRes:=zh hres;have HEE:=zh he;clear he hres;go_wp2_with fail
      refine(HT.out).mono ?_;rintro e w3 ⟨rfl,hp3,hf3⟩;have hR3:=hf3.at hRt (by simpa using hne);have hX3:=hf3.at hXt (by simpa using hneX);have hx3:=hxt.fr hf3 (by simp;omega);have hw3:=hft.trans hf3;have hRl3:=lt_of_block hR3;have hXl3:=lt_of_block hX3;clear hAt hg1 hpt hft hRt hXt hxt hcl;obtain⟨c0,c1,c2,c3,c4,c5,c6,c7,c8,c9⟩:=cellsO10 hX3;obtain⟨u0,u1,u2,u3,u4,u5,u6,u7,u8,u9⟩:=free10 hX3;have hbk:Below w3.heap.size w3 (w3.alloc (.cells #[.int .i64 x.kind,.string ⟨x.str.toArray⟩,.int .i64 x.v.kind,.int .i64 x.v.num,.float .f64 x.v.flt,.string ⟨x.v.str.toArray⟩,.slice na nl nc,.slice ia il ic,.slice ma ml mc,.slice ka kl kc] 29)):=(Below.refl _ _).alloc (Nat.le_refl _) _;go_wp2_with fail
      go_region_law (first
       | ((go_simp;go_at_call 32;(with_reducible refine dies_way ((HEx.out _ _ (hp3.below hbk).drew).mono ?_) (.agg #[.int .i64 0,.string ⟨#[]⟩,.int .i64 0,.int .i64 0,.float .f64 0,.string ⟨#[]⟩,.slice none 0 0,.slice none 0 0,.slice none 0 0,.slice none 0 0]) (fun hF=>?_));(intro e w4 h4;obtain⟨y,n,rfl,h4,hf4⟩:=PrPost.bad_out HEE.out h4;exact⟨rfl,PrPost.bad HRes.out (h4.up (hs1.trans hq)) ((hw3.trans (Fr.of_below hbk)).drew.trans hf4)⟩);dsimp only))
       | ((go_simp;go_at_call 32;(with_reducible refine dies_way ((HEx.out _ _ hp3.drew).mono ?_) (.agg #[.int .i64 0,.string ⟨#[]⟩,.int .i64 0,.int .i64 0,.float .f64 0,.string ⟨#[]⟩,.slice none 0 0,.slice none 0 0,.slice none 0 0,.slice none 0 0]) (fun hF=>?_));(intro e w4 h4;obtain⟨y,n,rfl,h4,hf4⟩:=PrPost.bad_out HEE.out h4;exact⟨rfl,PrPost.bad HRes.out (h4.up (hs1.trans hq)) (hw3.drew.trans hf4)⟩);dsimp only)))
      all_goals exact hF.out.elim
     ·rw[he]at hres;dsimp only at hres;have HRes1:=zh hres;have HEE:=zh he;clear he hres;go_wp2_with fail
      refine(HT.out).mono ?_;rintro e w3 ⟨rfl,hp3,hf3⟩;have hR3:=hf3.at hRt (by simpa using hne);have hX3:=hf3.at hXt (by simpa using hneX);have hx3:=hxt.fr hf3 (by simp;omega);have hw3:=hft.trans hf3;have hRl3:=lt_of_block hR3;have hXl3:=lt_of_block hX3;clear hAt hg1 hpt hft hRt hXt hxt hcl;obtain⟨c0,c1,c2,c3,c4,c5,c6,c7,c8,c9⟩:=cellsO10 hX3;obtain⟨u0,u1,u2,u3,u4,u5,u6,u7,u8,u9⟩:=free10 hX3;go_wp2_with fail
      go_region_law (first
       | ((go_simp;go_at_call 32;(with_reducible refine(HEx.out _ _ hp3.drew).mono ?_);intro e w4 h4;obtain⟨na',nl',nc',ia',il',ic',ma',ml',mc',ka',kl',kc',d',q2,rfl,hy4,hs4,hl4,hp4,hf4⟩:=PrPost.good_out HEE.out h4;have hX4:=hf4.at (show w3.drew.heap[X]?=_ from hX3) (by simpa using hneX);obtain⟨k0,k1,k2,k3,k4,k5,k6,k7,k8,k9⟩:=cellsO10 hX4;have hbk4:=(Below.refl w4.heap.size w4).alloc (Nat.le_refl _) (.cells #[.int .i64 x.kind,.string ⟨x.str.toArray⟩,.int .i64 x.v.kind,.int .i64 x.v.num,.float .f64 x.v.flt,.string ⟨x.v.str.toArray⟩,.slice na nl nc,.slice ia il ic,.slice ma ml mc,.slice ka kl kc,.int .i64 y.kind,.string ⟨y.str.toArray⟩,.int .i64 y.v.kind,.int .i64 y.v.num,.float .f64 y.v.flt,.string ⟨y.v.str.toArray⟩,.slice na' nl' nc',.slice ia' il' ic',.slice ma' ml' mc',.slice ka' kl' kc'] 29);have hX5:=(hbk4.block _ (lt_of_block hX4)).trans hX4;obtain⟨o0,o1,o2,o3,o4,o5,o6,o7,o8,o9⟩:=cellsO10 hX5;obtain⟨p0,p1,p2,p3,p4,p5,p6,p7,p8,p9⟩:=free10 hX5;dsimp only)))
      all_goals
       have hk5:=heap_alloc_new w4 (.cells #[.int .i64 x.kind,.string ⟨x.str.toArray⟩,.int .i64 x.v.kind,.int .i64 x.v.num,.float .f64 x.v.flt,.string ⟨x.v.str.toArray⟩,.slice na nl nc,.slice ia il ic,.slice ma ml mc,.slice ka kl kc,.int .i64 y.kind,.string ⟨y.str.toArray⟩,.int .i64 y.v.kind,.int .i64 y.v.num,.float .f64 y.v.flt,.string ⟨y.v.str.toArray⟩,.slice na' nl' nc',.slice ia' il' ic',.slice ma' ml' mc',.slice ka' kl' kc'] 29);have hw4:=hw3.drew.trans hf4;have hw5:=hw4.grow hw4.size hbk4;have hp5:=hp4.below hbk4;have hF34:Fr [b] w3 w4:=(Fr.refl [b] w3).drew.trans hf4;have hsz34:w3.heap.size≤w4.heap.size:=hF34.size;have hx5:=(hx3.fr hF34 (by simp;omega)).below hbk4;have hy5:=(hy4.wider (T:=fun g=>w.heap.size<g∧g≠X) (fun g hg=>by have hg:w3.heap.size≤g:=hg;omega)).below hbk4;have hR4:=hF34.at hR3 (by simpa using hne);have hR5:=(hbk4.block _ (lt_of_block hR4)).trans hR4;have hx6:=ExIn.two 19 (by decide) hx5 hy5 (show w.heap.size<w4.heap.size∧w4.heap.size≠X by omega) hk5;obtain⟨hXz,hfz⟩:=put10 hX5 (.int .i64 19) (.string ⟨#[]⟩) (.int .i64 0) (.int .i64 0) (.float .f64 0) (.string ⟨#[]⟩) (.slice none 0 0) (.slice none 0 0) (.slice none 0 0) (.slice (some ⟨w4.heap.size,0,none⟩) 2 2);generalize (((((((((((w4.alloc (.cells #[.int .i64 x.kind,.string ⟨x.str.toArray⟩,.int .i64 x.v.kind,.int .i64 x.v.num,.float .f64 x.v.flt,.string ⟨x.v.str.toArray⟩,.slice na nl nc,.slice ia il ic,.slice ma ml mc,.slice ka kl kc,.int .i64 y.kind,.string ⟨y.str.toArray⟩,.int .i64 y.v.kind,.int .i64 y.v.num,.float .f64 y.v.flt,.string ⟨y.v.str.toArray⟩,.slice na' nl' nc',.slice ia' il' ic',.slice ma' ml' mc',.slice ka' kl' kc'] 29))).setCell ⟨X,0,none⟩ (.int .i64 19)).setCell ⟨X,1,none⟩ (.string ⟨#[]⟩)).setCell ⟨X,2,none⟩ (.int .i64 0)).setCell ⟨X,3,none⟩ (.int .i64 0)).setCell ⟨X,4,none⟩ (.float .f64 0)).setCell ⟨X,5,none⟩ (.string ⟨#[]⟩)).setCell ⟨X,6,none⟩ (.slice none 0 0)).setCell ⟨X,7,none⟩ (.slice none 0 0)).setCell ⟨X,8,none⟩ (.slice none 0 0)).setCell ⟨X,9,none⟩ (.slice (some ⟨w4.heap.size,0,none⟩) 2 2)=wz at *;have hpz:=hp5.fr hfz (by simp;omega);have hRz:=hfz.at hR5 (by simp;omega);have hwz:=hw5.lower (hfz.below hw5.size (by simp;omega));have hxz:=hx6.fr hfz (by simp);have hbX:b<w4.heap.size:=by omega
       clear c0 c1 c2 c3 c4 c5 c6 c7 c8 c9 k0 k1 k2 k3 k4 k5 k6 k7 k8 k9 o0 o1 o2 o3 o4 o5 o6 o7 o8 o9 p0 p1 p2 p3 p4 p5 p6 p7 p8 p9 hX5 hbk4 hk5 hx5 hy5 hx6 hR4 hR5;subst hl4;have hW2:=HRes1.out;rw[wantK]at hW2;rcases hk2:takeK [[93]] q2 with _|⟨j2,q3⟩
       ·rw[hk2]at hW2;have HW:=zh hW2;have HWn:=zh (pwant_no [93] hpz hk2);clear hk2 hW2;go_wp2_with fail
        refine(HWn.out).mono ?_;rintro e w6 ⟨rfl,hf6⟩;exact⟨rfl,PrPost.bad HW.out ((ErrAt.here en q2).up (hs4.trans (hs1.trans hq))) (hwz.trans hf6)⟩
       ·rw[hk2]at hW2;have hk3':=takeK_suf hk2;have hl6:=hk3'.2;have hs6:=hk3'.1;have HW:=zh hW2;have HWn:=zh (pwant_yes [93] hpz hk2);dsimp only at hs6 hl6 HW HWn;clear hk2 hW2 hk3';go_wp2_with fail
        refine(HWn.out).mono ?_;rintro e w6 ⟨rfl,hp6,hf6⟩;go_wp2_with fail
        have hl4':=hs4.length_le;go_roundw
        case rel=>exact⟨q3,twoE 19 x y,_,d+d'+1,f,by omega,HW,hs6.trans (hs4.trans (hs1.trans hq)),hp6,hwz.trans hf6,hf6.at hRz (by simpa using hne),hf6.at hXz (by simpa using hneX),hxz.fr hf6 (by simp;omega)⟩
        case measure=>rw[hp6.len,hLen.out];omega
end
section
open Go.RowKit
/-- what an item's reading makes of the rest -/
def rowTail (E:List Te→PR) (f:Nat) (xs:List ET) (l:List Te):PR :=
 match takeS [[44]] l with
 | some (_,r2)=>rowL E f xs r2
 | none=>(match wantS [93] l with|.error e=>.error e|.ok r2=>.ok (.mk 16 [] noVT [] xs,r2))
theorem rowL_s (E:List Te→PR) (f:Nat) (xs:List ET) (l:List Te):rowL E (f+1) xs l=(match E l with|.error e=>.error e|.ok (x,r)=>rowTail E f (xs++[x]) r):=rfl
/-- a list while it is read -/
def RowRel (G:Nat→List ET→List Te→PR) (b en dp m L:Nat) (r:List Tk) (w:World) (res:PR) (wr:World):Prop :=
 ∃ (q:List Tk) (xs:List ET) (f d:Nat) (pa:Option Addr) (pl pc:Nat),q.length<f+m∧q.length≤L∧q.length+xs.length≤10000+m∧Hid (res=G f xs (q.map Tk.te))∧q <:+ r∧PsAt b en dp q wr∧Fr [b] w wr∧wr.heap[w.heap.size]?=some (.cells #[.int .i64 0,.string ⟨#[]⟩,.int .i64 0,.int .i64 0,.float .f64 0,.string ⟨#[]⟩,.slice none 0 0,.slice none 0 0,.slice none 0 0,.slice none 0 0] 29 (0,0)) ∧
  wr.heap[w.heap.size+1]?=some (.cells #[.int .i64 16,.string ⟨#[]⟩,.int .i64 0,.int .i64 0,.float .f64 0,.string ⟨#[]⟩,.slice none 0 0,.slice none 0 0,.slice none 0 0,.slice pa pl pc] 29 (0,0))∧RowsE (w.heap.size+1) d [] xs (.slice none 0 0) (.slice pa pl pc) wr
/-- behind an item's reading: the rows are one longer -/
def RowMid (k:Int) (pn:Value) (b en dp:Nat) (q:List Tk) (w:World) (ns:List (List UInt8)) (its:List ET) (l:List Te) (wx:World):Prop :=
 ∃ (q5:List Tk) (d g cap:Nat),q5 <:+ q∧q5.map Tk.te=l∧PsAt b en dp q5 wx∧Fr [b] w wx∧wx.heap[w.heap.size]?=some (.cells #[.int .i64 0,.string ⟨#[]⟩,.int .i64 0,.int .i64 0,.float .f64 0,.string ⟨#[]⟩,.slice none 0 0,.slice none 0 0,.slice none 0 0,.slice none 0 0] 29 (0,0)) ∧
  wx.heap[w.heap.size+1]?=some (.cells #[.int .i64 k,.string ⟨#[]⟩,.int .i64 0,.int .i64 0,.float .f64 0,.string ⟨#[]⟩,.slice none 0 0,.slice none 0 0,pn,.slice (some ⟨g,0,none⟩) its.length cap] 29 (0,0))∧RowsE (w.heap.size+1) d ns its pn (.slice (some ⟨g,0,none⟩) its.length cap) wx
/-- what changes a row of our own alone -/
theorem PsAt.row {b en dp:Nat} {q:List Tk} {w w':World} {v:Value} (h:PsAt b en dp q w) (hg:w.grownBy w' v.ownBlock) (hv:∀ x,v.ownBlock=some x→b<x):PsAt b en dp q w' :=
 h.fr (l:=v.ownBlock.toList) ⟨hg.os,hg.tape,hg.output,hg.size,fun k hk hn=>hg.block k hk (fun e=>hn (by rw[←e];simp))⟩ (fun x hx=>hv x (by simpa using hx))
theorem Fr.row {b P:Nat} {w w1 w2:World} {v:Value} (h:Fr [b] w w1) (hg:w1.grownBy w2 v.ownBlock) (hv:∀ x,v.ownBlock=some x→P<x) (hP:w.heap.size≤P):Fr [b] w w2 :=
 h.lower ⟨hg.os,hg.tape,hg.output,hg.size,fun k hk=>hg.block k (Nat.lt_of_lt_of_le hk h.size) (fun e=>by have:=hv k e.symm;omega)⟩
theorem row_mid (b en dp:Nat) (q q5:List Tk) (w wr w5 u4:World) (xs:List ET) (x:ET) (f:Nat) (l:List Te) (ys:List Value) (pa:Option Addr) (pl pc g cap:Nat) (na ia ma ka:Option Addr) (nl nc il ic ml mc kl kc:Nat)
  (hw:Fr [b] w wr) (hf5:Fr [b] wr.drew w5) (hlt:b<w.heap.size) (hR:wr.heap[w.heap.size]?=some (.cells #[.int .i64 0,.string ⟨#[]⟩,.int .i64 0,.int .i64 0,.float .f64 0,.string ⟨#[]⟩,.slice none 0 0,.slice none 0 0,.slice none 0 0,.slice none 0 0] 29 (0,0))) (hX:wr.heap[w.heap.size+1]?=some (.cells #[.int .i64 16,.string ⟨#[]⟩,.int .i64 0,.int .i64 0,.float .f64 0,.string ⟨#[]⟩,.slice none 0 0,.slice none 0 0,.slice none 0 0,.slice pa pl pc] 29 (0,0)))
  (hp5:PsAt b en dp q5 w5) (hs5:q5 <:+ q) (hm5:q5.map Tk.te=l)
  (hx:(w5.alloc (.cells #[.int .i64 x.kind,.string ⟨x.str.toArray⟩,.int .i64 x.v.kind,.int .i64 x.v.num,.float .f64 x.v.flt,.string ⟨x.v.str.toArray⟩,.slice na nl nc,.slice ia il ic,.slice ma ml mc,.slice ka kl kc] 29)).ownsRow (w.heap.size+1+1) 29 10 (.slice pa pl pc) xs.length ys) (hrA:RowsE (w.heap.size+1) f [] xs (.slice none 0 0) (.slice pa pl pc) (w5.alloc (.cells #[.int .i64 x.kind,.string ⟨x.str.toArray⟩,.int .i64 x.v.kind,.int .i64 x.v.num,.float .f64 x.v.flt,.string ⟨x.v.str.toArray⟩,.slice na nl nc,.slice ia il ic,.slice ma ml mc,.slice ka kl kc] 29))) (hvA:ExIn (Sep (w.heap.size+1) (.slice none 0 0) (.slice pa pl pc)) (w5.alloc (.cells #[.int .i64 x.kind,.string ⟨x.str.toArray⟩,.int .i64 x.v.kind,.int .i64 x.v.num,.float .f64 x.v.flt,.string ⟨x.v.str.toArray⟩,.slice na nl nc,.slice ia il ic,.slice ma ml mc,.slice ka kl kc] 29)) f x #[.int .i64 x.kind,.string ⟨x.str.toArray⟩,.int .i64 x.v.kind,.int .i64 x.v.num,.float .f64 x.v.flt,.string ⟨x.v.str.toArray⟩,.slice na nl nc,.slice ia il ic,.slice ma ml mc,.slice ka kl kc])
  (hown:u4.ownsRow (w.heap.size+1+1) 29 10 (.slice (some ⟨g,0,none⟩) (xs.length+1) cap) (xs.length+1) (ys++#[.int .i64 x.kind,.string ⟨x.str.toArray⟩,.int .i64 x.v.kind,.int .i64 x.v.num,.float .f64 x.v.flt,.string ⟨x.v.str.toArray⟩,.slice na nl nc,.slice ia il ic,.slice ma ml mc,.slice ka kl kc].toList)) (hgrow:(w5.alloc (.cells #[.int .i64 x.kind,.string ⟨x.str.toArray⟩,.int .i64 x.v.kind,.int .i64 x.v.num,.float .f64 x.v.flt,.string ⟨x.v.str.toArray⟩,.slice na nl nc,.slice ia il ic,.slice ma ml mc,.slice ka kl kc] 29)).grownBy u4 (Value.ownBlock (.slice pa pl pc))) (hat:Value.ownBlock (.slice pa pl pc)=some g∨g=w5.heap.size+1) :
  RowMid 16 (.slice none 0 0) b en dp q w [] (xs++[x]) l (u4.setCell ⟨w.heap.size+1,9,none⟩ (.slice (some ⟨g,0,none⟩) (xs.length+1) cap)):=by
 have hrF:=hrA.item hx (by rfl) hvA hown hgrow hat (by simp);have hO:∀ k,Value.ownBlock (.slice pa pl pc)=some k→w.heap.size+1<k:=fun k e=>by have:=(own_lt hx e).1;omega
 have hA5:Fr [b] w w5:=hw.drew.trans hf5;have hbk:=(Below.refl w5.heap.size w5).alloc (Nat.le_refl _) (.cells #[.int .i64 x.kind,.string ⟨x.str.toArray⟩,.int .i64 x.v.kind,.int .i64 x.v.num,.float .f64 x.v.flt,.string ⟨x.v.str.toArray⟩,.slice na nl nc,.slice ia il ic,.slice ma ml mc,.slice ka kl kc] 29);have hA6:=hA5.grow hA5.size hbk;have hX5:=hf5.at (show wr.drew.heap[w.heap.size+1]?=_ from hX) (by simp;omega);have hR5:=hf5.at (show wr.drew.heap[w.heap.size]?=_ from hR) (by simp;omega);have hXl:=lt_of_block hX5;have hX6:=(hbk.block _ hXl).trans hX5;have hR6:=(hbk.block _ (lt_of_block hR5)).trans hR5;have hk:∀ k,k≤w.heap.size+1→k<(w5.alloc (.cells #[.int .i64 x.kind,.string ⟨x.str.toArray⟩,.int .i64 x.v.kind,.int .i64 x.v.num,.float .f64 x.v.flt,.string ⟨x.v.str.toArray⟩,.slice na nl nc,.slice ia il ic,.slice ma ml mc,.slice ka kl kc] 29)).heap.size→u4.heap[k]?=(w5.alloc (.cells #[.int .i64 x.kind,.string ⟨x.str.toArray⟩,.int .i64 x.v.kind,.int .i64 x.v.num,.float .f64 x.v.flt,.string ⟨x.v.str.toArray⟩,.slice na nl nc,.slice ia il ic,.slice ma ml mc,.slice ka kl kc] 29)).heap[k]?:=fun k h1 h2=>hgrow.block k h2 (fun e=>by have:=hO k e.symm;omega)
 have hX7:=(hk _ (Nat.le_refl _) (lt_of_block hX6)).trans hX6;have hR7:=(hk _ (by omega) (lt_of_block hR6)).trans hR6;have hp7:=(hp5.below hbk).row hgrow (fun x e=>by have:=hO x e;omega);have hA7:=hA6.row hgrow hO (by omega);have F6:=(Fr.refl [w.heap.size+1] u4).setCell ⟨w.heap.size+1,9,none⟩ (by simp) (.slice (some ⟨g,0,none⟩) (xs.length+1) cap);have g6:=heap_setN hX7 9 (.slice (some ⟨g,0,none⟩) (xs.length+1) cap);have e1:(xs++[x]).length=xs.length+1:=by simp
 refine⟨q5,f,g,cap,hs5,hm5,hp7.fr F6 (by simp;omega),hA7.lower (F6.below hA7.size (by simp)),F6.at hR7 (by simp),?_,?_⟩
 ·rw[e1];exact g6
 ·rw[e1];exact hrF.far (b:=w.heap.size+1) F6.grown (Nat.le_refl _)
theorem prowOf_any (E:List Te→PR) (b en dp:Nat) (HE:ReadsE 32 E b en dp):ReadsE 175 (rowF E) b en dp:=fun r w h=>by
 have hsf:∀ (a:Addr) (x:Nat) (m:Mode) (w:World),(store a (.float .f64 x) m).run Tryz.prog w=stored Tryz.prog w a (.float .f64 x) m:=fun a x m w=>run_store _ w a _ m rfl
 obtain⟨hA,hR1,hX1⟩:=two_boxes w (.cells #[.int .i64 0,.string ⟨#[]⟩,.int .i64 0,.int .i64 0,.float .f64 0,.string ⟨#[]⟩,.slice none 0 0,.slice none 0 0,.slice none 0 0,.slice none 0 0] 29) (.cells #[.int .i64 16,.string ⟨#[]⟩,.int .i64 0,.int .i64 0,.float .f64 0,.string ⟨#[]⟩,.slice none 0 0,.slice none 0 0,.slice none 0 0,.slice none 0 0] 29);have hp1:=h.below hA;have hlt:=h.lt;have hne:w.heap.size≠b:=by omega
 have hneX:w.heap.size+1≠b:=by omega
 have hw1:Fr [b] w ((w.alloc (.cells #[.int .i64 0,.string ⟨#[]⟩,.int .i64 0,.int .i64 0,.float .f64 0,.string ⟨#[]⟩,.slice none 0 0,.slice none 0 0,.slice none 0 0,.slice none 0 0] 29)).alloc (.cells #[.int .i64 16,.string ⟨#[]⟩,.int .i64 0,.int .i64 0,.float .f64 0,.string ⟨#[]⟩,.slice none 0 0,.slice none 0 0,.slice none 0 0,.slice none 0 0] 29)):=Fr.of_below hA;have hXl1:=lt_of_block hX1;have hrl:r.length≤10000:=by obtain⟨_,_,v,⟨hl,_⟩,_⟩:=h;exact hl
 have HEx:=zh HE;clear HE;have hres:rowF E (r.map Tk.te)=(match takeS [[93]] (r.map Tk.te) with|some (_,r2)=>.ok (.mk 16 [] noVT [] [],r2)|none=>rowL E ((r.map Tk.te).length+1) [] (r.map Tk.te)):=rfl
 rw[takeK_eq]at hres;generalize rowF E (r.map Tk.te)=res at *;rcases hk:takeK [[93]] r with _|⟨j,q⟩
 ·rw[hk]at hres;dsimp only[Option.map]at hres;go_in;go_upto_region 2 with (fail)
  clear hA;generalize ((w.alloc (.cells #[.int .i64 0,.string ⟨#[]⟩,.int .i64 0,.int .i64 0,.float .f64 0,.string ⟨#[]⟩,.slice none 0 0,.slice none 0 0,.slice none 0 0,.slice none 0 0] 29)).alloc (.cells #[.int .i64 16,.string ⟨#[]⟩,.int .i64 0,.int .i64 0,.float .f64 0,.string ⟨#[]⟩,.slice none 0 0,.slice none 0 0,.slice none 0 0,.slice none 0 0] 29))=w1 at *;have hAt:=(Below.refl w1.heap.size w1).alloc (Nat.le_refl _) (.cells #[.string ⟨#[93]⟩] 9);have hg1:=heap_alloc_new w1 (.cells #[.string ⟨#[93]⟩] 9);have hcl:=take_in (sg:=[[93]]) hg1 rfl;have hpt:=hp1.below hAt;have HT:=zh (ptake_no (sg:=[[93]]) w1.heap.size 0 1 (by simp) hpt (lt_of_block hg1) hcl hk);clear hk;have HRes:=zh hres;clear hres;go_wp2_with fail
  refine(HT.out).mono ?_;rintro e w2 ⟨rfl,hp2,hf2⟩;have hR2:=hf2.at ((hAt.block _ (lt_of_block hR1)).trans hR1) (by simpa using hne);have hX2:=hf2.at ((hAt.block _ (lt_of_block hX1)).trans hX1) (by simpa using hneX);have hw2:=(hw1.grow hw1.size hAt).trans hf2;have HRel0:=zh (show RowRel (rowL E) b en dp 0 10000 r w res w2 from⟨r,[],r.length+1,0,none,0,0,by omega,hrl,by simpa using hrl,zh (by rw[HRes.out,List.length_map]),List.suffix_refl r,hp2,hw2,hR2,hX2,RowsE.nil (w.heap.size+1) 0 w2⟩);go_wp2_with fail
  clear hR2 hX2 hw2 hp2 hf2 hAt hg1 hcl hpt HT hw1 hR1 hX1 hp1 hXl1 HRes;go_loopw [] (fun wr=>RowRel (rowL E) b en dp 0 10000 r w res wr) (fun wr=>lenP b wr)
  case atStart=>exact HRel0.out
  case round =>
   clear HRel0;obtain⟨q,xs,f,d,pa,pl,pc,hfq,hq1,hq2,hR',hq,hp,hfr,hR,hX,hrow⟩:=hrel;obtain⟨f,rfl⟩:∃ g,f=g+1:=⟨f - 1,by omega⟩;have hLen:=zh hp.len;have hres:=hR'.out.trans (rowL_s E f xs (q.map Tk.te));clear hR';rcases he:E (q.map Tk.te)with er|⟨x,l⟩
   ·rw[he]at hres;have HRes:=zh hres;have HEE:=zh he;clear he hres;obtain⟨c0,c1,c2,c3,c4,c5,c6,c7,c8,c9⟩:=cellsO10 hX;obtain⟨u0,u1,u2,u3,u4,u5,u6,u7,u8,u9⟩:=free10 hX;go_wp2_with fail
    go_region_with ((go_at_call 32;(with_reducible refine(HEx.out _ _ hp.drew).mono ?_);intro e w5 h5;obtain⟨z,n,rfl,h5,hf5⟩:=PrPost.bad_out HEE.out h5;refine shut_way (w:=w) ⟨rfl,PrPost.bad HRes.out (h5.up hq) (hfr.drew.trans hf5)⟩ ?_))
    all_goals trivial
   ·rw[he]at hres;dsimp only at hres;have HRes:=zh hres;have HEE:=zh he;clear he hres;obtain⟨i0,hi0,hz0,hz1,hz2⟩:=Go.info_parts zero_ET;have HII:=zh hi0;have HZ0:=zh hz0;have HZ1:=zh hz1;have HZ2:=zh hz2;clear hi0 hz0 hz1 hz2;have hXl:=lt_of_block hX;have hbX:b<w.heap.size+1:=by omega
    have HK:=zh (fun(y:World) (h:y.heap[w.heap.size+1]?=some (.cells #[.int .i64 16,.string ⟨#[]⟩,.int .i64 0,.int .i64 0,.float .f64 0,.string ⟨#[]⟩,.slice none 0 0,.slice none 0 0,.slice none 0 0,.slice pa pl pc] 29 (0,0)))=>(show y.cell? ⟨w.heap.size+1,9,none⟩=some (.slice pa pl pc)∧y.frozen? ⟨w.heap.size+1,9,none⟩=false from⟨by rw[zc h];rfl,Lib.frozen_of_heap h 9⟩));have c9:=(HK.out _ hX).1;go_wp2_with fail
    go_upto_region 4 with (fail)
    go_cut [] (fun wx=>RowMid 16 (.slice none 0 0) b en dp q w [] (xs++[x]) l wx)
    case first =>
     go_region_law (first
      | ((go_simp;go_at_call 32;(with_reducible refine(HEx.out _ _ hp.drew).mono ?_);intro e w5 h5;obtain⟨na,nl,nc,ia,il,ic,ma,ml,mc,ka,kl,kc,d5,q5,rfl,V5,hs5,hl5,hp5,hf5⟩:=PrPost.good_out HEE.out h5;have g5:=hf5.at (show wr.drew.heap[w.heap.size+1]?=_ from hX) (by simpa using hneX);obtain⟨k5,z5⟩:=HK.out _ g5;have a5:=(World.cell?_alloc_some w5 _ (.cells #[.int .i64 x.kind,.string ⟨x.str.toArray⟩,.int .i64 x.v.kind,.int .i64 x.v.num,.float .f64 x.v.flt,.string ⟨x.v.str.toArray⟩,.slice na nl nc,.slice ia il ic,.slice ma ml mc,.slice ka kl kc] 29) (by rw[k5];rfl)).trans k5;obtain⟨ys,hx,hrA,hvA⟩:=rows_readyE (hrow.upto (Nat.le_add_right d d5)) (V5.upto (Nat.le_add_left d5 d)) hf5 hbX hXl (.cells #[.int .i64 x.kind,.string ⟨x.str.toArray⟩,.int .i64 x.v.kind,.int .i64 x.v.num,.float .f64 x.v.flt,.string ⟨x.v.str.toArray⟩,.slice na nl nc,.slice ia il ic,.slice ma ml mc,.slice ka kl kc] 29);dsimp only))
      | ((refine step_append_lies _ (by rfl) _ _ _ (by rfl) (w.heap.size+1+1) 29 i0 _ 10 160 Tryz.underlying27 HII.out HZ0.out HZ1.out HZ2.out rfl (by omega) (.slice pa pl pc) xs.length ys (by rfl) hx ⟨w5.heap.size,0,none⟩ 1 1 [.int .i64 x.kind,.string ⟨x.str.toArray⟩,.int .i64 x.v.kind,.int .i64 x.v.num,.float .f64 x.v.flt,.string ⟨x.v.str.toArray⟩,.slice na nl nc,.slice ia il ic,.slice ma ml mc,.slice ka kl kc] (by rfl) (by rfl) (World.news_of_block (cs:=#[.int .i64 x.kind,.string ⟨x.str.toArray⟩,.int .i64 x.v.kind,.int .i64 x.v.num,.float .f64 x.v.flt,.string ⟨x.v.str.toArray⟩,.slice na nl nc,.slice ia il ic,.slice ma ml mc,.slice ka kl kc]) (t:=29) (fr:=(0,0)) (heap_alloc_new w5 _)) (by simp[Value.oneCell']) (by omega) (by unfold maxLen;omega) (by omega) (by have:=hf5.size;simp at this ⊢;omega) (w5.heap.size+1) (by simp) ?_;intro g cap u4 hown4 hgrow hat hlt4;have g6:u4.heap[w.heap.size+1]?=_:=(hgrow.block (w.heap.size+1) (Nat.lt_of_lt_of_le (lt_of_block g5) (by simp)) (fun e=>by have:=(own_lt hx e.symm).1;omega)).trans ((Lib.alloc_old w5 _ (w.heap.size+1) (lt_of_block g5)).trans g5);obtain⟨k4,z4⟩:=HK.out _ g6)))
     all_goals
      go_wp2_with fail
      go_meet;exact row_mid b en dp q q5 w wr w5 u4 xs x (d+d5) l ys pa pl pc g cap na ia ma ka nl nc il ic ml mc kl kc hfr hf5 hlt hR hX hp5 hs5 hl5 hx hrA hvA hown4 hgrow hat
    case rest =>
     obtain⟨q5,d5,g,cap,hs5,hl5,hp5,hw5,hR5,hX5,hrow5⟩:=hcut;subst hl5;clear c9;generalize hpl5:(xs++[x]).length=pl5 at hX5 hrow5;replace hpl5:=zh hpl5;have hres:=HRes.out;have hle5:=hs5.length_le;have hAt:=(Below.refl wc.heap.size wc).alloc (Nat.le_refl _) (.cells #[.string ⟨#[44]⟩] 9);have hg1:=heap_alloc_new wc (.cells #[.string ⟨#[44]⟩] 9);have hcl:=take_in (sg:=[[44]]) hg1 rfl;have hpt:=hp5.below hAt;have hRt:=(hAt.block _ (lt_of_block hR5)).trans hR5;have hXt:=(hAt.block _ (lt_of_block hX5)).trans hX5;have hwt:=hw5.grow hw5.size hAt;have hrt:=hrow5.far (World.grownBy_alloc wc (.cells #[.string ⟨#[44]⟩] 9) (some b)) (by omega);rcases hk:takeK [[44]] q5 with _|⟨j,q6⟩
     ·have hT:=ptake_no (sg:=[[44]]) wc.heap.size 0 1 (by simp) hpt (lt_of_block hg1) hcl hk;have HT:=zh hT;have e1:rowTail E f (xs++[x]) (q5.map Tk.te)=(match wantS [93] (q5.map Tk.te) with|.error e=>.error e|.ok r2=>.ok (.mk 16 [] noVT [] (xs++[x]),r2)):=by
       unfold rowTail;rw[takeK_eq,hk];rfl
      rw[e1,wantK]at hres;clear hk hT;go_wp2_with fail
      refine(HT.out).mono ?_;rintro e w6 ⟨rfl,hp6,hf6⟩;have hR6:=hf6.at hRt (by simpa using hne);have hX6:=hf6.at hXt (by simpa using hneX);have hw6:=hwt.trans hf6;have hr6:=hrt.far hf6.grown (by omega);rcases hk2:takeK [[93]] q5 with _|⟨j2,q7⟩
      ·rw[hk2]at hres;have HW:=zh hres;have HWn:=zh (pwant_no [93] hp6 hk2);clear hk2 hres;go_wp2_with fail
       refine(HWn.out).mono ?_;rintro e w7 ⟨rfl,hf7⟩;exact⟨rfl,PrPost.bad HW.out ((ErrAt.here en q5).up (hs5.trans hq)) (hw6.trans hf7)⟩
      ·rw[hk2]at hres;have hk3':=takeK_suf hk2;have hs7:=hk3'.1;have HW:=zh hres;have HWn:=zh (pwant_yes [93] hp6 hk2);dsimp only at hs7 HW HWn;clear hk2 hres hk3';go_wp2_with fail
       refine(HWn.out).mono ?_;rintro e w7 ⟨rfl,hp7,hf7⟩;have hR7:=hf7.at hR6 (by simpa using hne);have hX7:=hf7.at hX6 (by simpa using hneX);have hw7:=hw6.trans hf7;have hr7:=hr6.far hf7.grown (by omega);have hnode:=hr7.node (K:=16) (by decide) (by simp) (fun s hs=>nomatch hs) (by simp;omega);obtain⟨c0,c1,c2,c3,c4,c5,c6,c7,c8,c9⟩:=cellsO10 hX7;obtain⟨x0,x1,x2,x3,x4,x5,x6,x7,x8,x9⟩:=cellsO10 hR7;obtain⟨z0,z1,z2,z3,z4,z5,z6,z7,z8,z9⟩:=free10 hR7;go_wp2_with fail
       obtain⟨hst,hff⟩:=put10 hR7 (.int .i64 16) (.string ⟨#[]⟩) (.int .i64 0) (.int .i64 0) (.float .f64 0) (.string ⟨#[]⟩) (.slice none 0 0) (.slice none 0 0) (.slice none 0 0) (.slice (some ⟨g,0,none⟩) pl5 cap);generalize ((((((((((w7).setCell ⟨w.heap.size,0,none⟩ (.int .i64 16)).setCell ⟨w.heap.size,1,none⟩ (.string ⟨#[]⟩)).setCell ⟨w.heap.size,2,none⟩ (.int .i64 0)).setCell ⟨w.heap.size,3,none⟩ (.int .i64 0)).setCell ⟨w.heap.size,4,none⟩ (.float .f64 0)).setCell ⟨w.heap.size,5,none⟩ (.string ⟨#[]⟩)).setCell ⟨w.heap.size,6,none⟩ (.slice none 0 0)).setCell ⟨w.heap.size,7,none⟩ (.slice none 0 0)).setCell ⟨w.heap.size,8,none⟩ (.slice none 0 0)).setCell ⟨w.heap.size,9,none⟩ (.slice (some ⟨g,0,none⟩) pl5 cap)=Z at *;obtain⟨y0,y1,y2,y3,y4,y5,y6,y7,y8,y9⟩:=cellsO10 hst;refine bodyPost_ret (v:=.agg #[.int .i64 16,.string ⟨#[]⟩,.int .i64 0,.int .i64 0,.float .f64 0,.string ⟨#[]⟩,.slice none 0 0,.slice none 0 0,.slice none 0 0,.slice (some ⟨g,0,none⟩) pl5 cap]) (by simp[results,Tryz.results175,go_sem,y0,y1,y2,y3,y4,y5,y6,y7,y8,y9]) rfl ?_;have hzB:Below w.heap.size w7 Z:=hff.below hw7.size (by simp);exact PrPost.good HW.out ((hnode.fr hff (by simp)).wider (fun g hg=>by have hg:w.heap.size+1<g:=hg;omega)) (hs7.trans (hs5.trans hq)) (hp7.fr hff (by simp;omega)) (hw7.lower hzB)
     ·have hT:=ptake_yes (sg:=[[44]]) wc.heap.size 0 1 (by simp) hpt (lt_of_block hg1) hcl hk;have HT:=zh hT;have hsq:=takeK_suf hk;have hs6:=hsq.1;have hl6:=hsq.2;have e1:rowTail E f (xs++[x]) (q5.map Tk.te)=rowL E f (xs++[x]) (q6.map Tk.te):=by
       unfold rowTail;rw[takeK_eq,hk];rfl
      rw[e1]at hres;dsimp only at hs6 hl6 HT;have HW:=zh hres;clear hk hT hsq hres e1;go_wp2_with fail
      refine(HT.out).mono ?_;rintro e w6 ⟨rfl,hp6,hf6⟩;have hR6:=hf6.at hRt (by simpa using hne);have hX6:=hf6.at hXt (by simpa using hneX);have hw6:=hwt.trans hf6;have hr6:=hrt.far hf6.grown (by omega);go_wp2_with fail
      go_roundw
      case rel=>exact⟨q6,xs++[x],f,d5,_,_,_,by omega,by omega,by simp;omega,HW,hs6.trans (hs5.trans hq),hp6,hw6,hR6,hX6,hr6⟩
      case measure=>rw[hp6.len,hLen.out];omega
 ·obtain rfl:j=0:=by have:=takeK_lt hk;simpa using this
  rw[hk]at hres;dsimp only[Option.map]at hres;go_in;go_upto_region 2 with (fail)
  clear hA;generalize ((w.alloc (.cells #[.int .i64 0,.string ⟨#[]⟩,.int .i64 0,.int .i64 0,.float .f64 0,.string ⟨#[]⟩,.slice none 0 0,.slice none 0 0,.slice none 0 0,.slice none 0 0] 29)).alloc (.cells #[.int .i64 16,.string ⟨#[]⟩,.int .i64 0,.int .i64 0,.float .f64 0,.string ⟨#[]⟩,.slice none 0 0,.slice none 0 0,.slice none 0 0,.slice none 0 0] 29))=w1 at *;have hAt:=(Below.refl w1.heap.size w1).alloc (Nat.le_refl _) (.cells #[.string ⟨#[93]⟩] 9);have hg1:=heap_alloc_new w1 (.cells #[.string ⟨#[93]⟩] 9);have hcl:=take_in (sg:=[[93]]) hg1 rfl;have hpt:=hp1.below hAt;have HT:=zh (ptake_yes (sg:=[[93]]) w1.heap.size 0 1 (by simp) hpt (lt_of_block hg1) hcl hk);have hs1:=(takeK_suf hk).1;dsimp only at hs1 HT;clear hk;have HRes:=zh hres;clear hres;go_wp2_with fail
  refine(HT.out).mono ?_;rintro e w2 ⟨rfl,hp2,hf2⟩;have hR2:=hf2.at ((hAt.block _ (lt_of_block hR1)).trans hR1) (by simpa using hne);have hX2:=hf2.at ((hAt.block _ (lt_of_block hX1)).trans hX1) (by simpa using hneX);have hw2:=(hw1.grow hw1.size hAt).trans hf2;have hnode:=(RowsE.nil (w.heap.size+1) 0 w2).node (K:=16) (by decide) (by simp) (fun s hs=>nomatch hs) (by simp);obtain⟨c0,c1,c2,c3,c4,c5,c6,c7,c8,c9⟩:=cellsO10 hX2;obtain⟨x0,x1,x2,x3,x4,x5,x6,x7,x8,x9⟩:=cellsO10 hR2;obtain⟨z0,z1,z2,z3,z4,z5,z6,z7,z8,z9⟩:=free10 hR2;go_wp2_with fail
  obtain⟨hst,hff⟩:=put10 hR2 (.int .i64 16) (.string ⟨#[]⟩) (.int .i64 0) (.int .i64 0) (.float .f64 0) (.string ⟨#[]⟩) (.slice none 0 0) (.slice none 0 0) (.slice none 0 0) (.slice none 0 0);generalize ((((((((((w2).setCell ⟨w.heap.size,0,none⟩ (.int .i64 16)).setCell ⟨w.heap.size,1,none⟩ (.string ⟨#[]⟩)).setCell ⟨w.heap.size,2,none⟩ (.int .i64 0)).setCell ⟨w.heap.size,3,none⟩ (.int .i64 0)).setCell ⟨w.heap.size,4,none⟩ (.float .f64 0)).setCell ⟨w.heap.size,5,none⟩ (.string ⟨#[]⟩)).setCell ⟨w.heap.size,6,none⟩ (.slice none 0 0)).setCell ⟨w.heap.size,7,none⟩ (.slice none 0 0)).setCell ⟨w.heap.size,8,none⟩ (.slice none 0 0)).setCell ⟨w.heap.size,9,none⟩ (.slice none 0 0)=Z at *;obtain⟨y0,y1,y2,y3,y4,y5,y6,y7,y8,y9⟩:=cellsO10 hst;refine bodyPost_ret (v:=.agg #[.int .i64 16,.string ⟨#[]⟩,.int .i64 0,.int .i64 0,.float .f64 0,.string ⟨#[]⟩,.slice none 0 0,.slice none 0 0,.slice none 0 0,.slice none 0 0]) (by simp[results,Tryz.results175,go_sem,y0,y1,y2,y3,y4,y5,y6,y7,y8,y9]) rfl ?_;have hzB:Below w.heap.size w2 Z:=hff.below hw2.size (by simp);exact PrPost.good HRes.out ((hnode.fr hff (by simp)).wider (fun g hg=>by have hg:w.heap.size+1<g:=hg;omega)) hs1 (hp2.fr hff (by simp;omega)) (hw2.lower hzB)
end
section
open Go.RowKit
/-- names that rise -/
def RiseN (ns:List (List UInt8)):Prop:=ns.Pairwise fun a b=>Op.bytesLess a b=true
theorem less_total:∀ {a b:List UInt8},Op.bytesLess a b=false→a≠b→Op.bytesLess b a=true
 | [],[],_,h=>absurd rfl h
 | [],_::_,h,_=>by rw[Op.bytesLess]at h;cases h
 | _::_,[],_,_=>rfl
 | x::a,y::b,h,hne=>by
  rw[Op.bytesLess]at h ⊢
  simp only[Bool.or_eq_false_iff,Bool.and_eq_false_iff,decide_eq_false_iff_not,Bool.or_eq_true,Bool.and_eq_true,decide_eq_true_eq,beq_iff_eq,beq_eq_false_iff_ne]at h ⊢
  obtain⟨h1,h2⟩:=h;by_cases e:x=y
  ·subst e;rcases h2 with h2|h2
   ·exact absurd rfl h2
   ·exact .inr ⟨rfl,less_total h2 (fun e=>hne (by rw[e]))⟩
  ·left;have h1:¬ x.toNat<y.toNat:=h1;have h3:x.toNat≠y.toNat:=fun h=>e (UInt8.toNat_inj.1 h)
   show y.toNat<x.toNat;omega
theorem ahead_le (ns:List (List UInt8)) (s:List UInt8):aheadN ns s≤ns.length:=by
 unfold aheadN;exact List.Sublist.length_le (List.takeWhile_sublist _)
theorem ahead_cons (a:List UInt8) (ns:List (List UInt8)) (s:List UInt8):aheadN (a::ns) s=if Op.bytesLess a s=true then aheadN ns s+1 else 0:=by
 unfold aheadN;rw[List.takeWhile_cons];split<;>rfl
theorem ahead_is:∀ {ns:List (List UInt8)} {s:List UInt8} {k:Nat},k≤ns.length→(∀ j,j<k→Op.bytesLess (ns.getD j []) s=true)→(∀ j,k≤j→j<ns.length→Op.bytesLess (ns.getD j []) s=false)→k=aheadN ns s
 | [],s,k,h,_,_=>by simpa [aheadN] using h
 | a::ns,s,0,_,_,h2=>by
  rw[ahead_cons];have:=h2 0 (by omega) (by simp);rw[if_neg (by simpa using this)]
 | a::ns,s,k+1,h,h1,h2=>by
  rw[ahead_cons];have e:=h1 0 (by omega);rw[if_pos (by simpa using e)];have:=ahead_is (ns:=ns) (s:=s) (k:=k) (by simpa using h) (fun j hj=>by simpa using h1 (j+1) (by omega)) (fun j hj hl=>by simpa using h2 (j+1) (by omega) (by simpa using hl));omega
theorem ahead_below:∀ {ns:List (List UInt8)} {s:List UInt8} {j:Nat},j<aheadN ns s→Op.bytesLess (ns.getD j []) s=true
 | [],s,j,h=>by simp[aheadN]at h
 | a::ns,s,j,h=>by
  rw[ahead_cons]at h;split at h
  ·rename_i h1;cases j with
   | zero=>simpa using h1
   | succ j=>simpa using ahead_below (ns:=ns) (s:=s) (j:=j) (by omega)
  ·omega
theorem rise_lt {ns:List (List UInt8)} (h:RiseN ns) {i j:Nat} (hij:i<j) (hj:j<ns.length):Op.bytesLess (ns.getD i []) (ns.getD j [])=true:=by
 have:=List.pairwise_iff_getElem.1 h i j (by omega) hj hij;rw[show ns.getD i []=ns[i] by simp[List.getD,show i<ns.length by omega],show ns.getD j []=ns[j] by simp[List.getD,hj]];exact this
theorem ahead_not:∀ {ns:List (List UInt8)} {s:List UInt8},aheadN ns s<ns.length→Op.bytesLess (ns.getD (aheadN ns s) []) s=false
 | [],s,h=>by simp at h
 | a::ns,s,h=>by
  rw[ahead_cons]at h ⊢
  split
  ·rename_i h1;rw[if_pos h1]at h;simpa using ahead_not (ns:=ns) (s:=s) (by simpa using h)
  ·rename_i h1;simpa using h1
theorem rise_put {ns:List (List UInt8)} {s:List UInt8} (h:RiseN ns) (hn:¬ ns[aheadN ns s]?=some s):RiseN (ns.take (aheadN ns s)++s::ns.drop (aheadN ns s)):=by
 have hle:=ahead_le ns s;have hup:∀ i,aheadN ns s≤i→i<ns.length→Op.bytesLess s (ns.getD i [])=true:=fun i h1 h2=>by
  have hne:aheadN ns s<ns.length:=by omega
  have e0:Op.bytesLess s (ns.getD (aheadN ns s) [])=true:=less_total (ahead_not hne) (fun e=>hn ((show ns[aheadN ns s]?=some (ns.getD (aheadN ns s) []) by simp[List.getD,hne]).trans (congrArg some e)));rcases Nat.eq_or_lt_of_le h1 with e|e
  ·rw[←e];exact e0
  ·exact less_trans' e0 (rise_lt h e h2)
 unfold RiseN;rw[List.pairwise_append];refine⟨h.sublist (List.take_sublist _ _),?_,?_⟩
 ·rw[List.pairwise_cons];refine⟨fun b hb=>?_,h.sublist (List.drop_sublist _ _)⟩;obtain⟨i,hi,e⟩:=List.getElem_of_mem hb;rw[List.length_drop]at hi;rw[List.getElem_drop]at e;have:=hup (aheadN ns s+i) (by omega) (by omega);rw[←e];simpa [List.getD,show aheadN ns s+i<ns.length by omega] using this
 ·intro a ha b hb;obtain⟨i,hi,e⟩:=List.getElem_of_mem ha;rw[List.length_take]at hi;rw[List.getElem_take]at e;have h1:=ahead_below (ns:=ns) (s:=s) (j:=i) (by omega);have h1:Op.bytesLess a s=true:=by
   rw[←e];simpa [List.getD,show i<ns.length by omega] using h1
  rcases List.mem_cons.1 hb with rfl|hb
  ·exact h1
  ·obtain⟨j,hj,e2⟩:=List.getElem_of_mem hb;rw[List.length_drop]at hj;rw[List.getElem_drop]at e2;have:=hup (aheadN ns s+j) (by omega) (by omega);refine less_trans' h1 ?_;rw[←e2];simpa [List.getD,show aheadN ns s+j<ns.length by omega] using this
theorem less_string (s t:ByteArray) (w:World):Calls Tryz.prog 202 #[.string s,.string t] w fun e w'=>e=.returned (.bool (Op.bytesLess s.toList t.toList))∧w=w':=by
 have HN:=zh (fun n w=>nan_string n w);cases t1:Op.bytesLess s.toList t.toList
 all_goals
  go_in;go_wp2_with fail
  refine(HN.out _ _).mono ?_;rintro e w1 ⟨rfl,rfl⟩;go_wp2_with fail
  go_ret;exact⟨rfl,rfl⟩
theorem nan_string2 (s:ByteArray) (w:World):Calls Tryz.prog 203 #[.string s] w fun e w'=>e=.returned (.bool false)∧w=w':=by
 have t0:(s.toList != s.toList)=false:=by simp
 go_in;go_wp2_with fail
 go_ret;exact⟨rfl,rfl⟩
theorem less_list (s t:List UInt8) (w:World):Calls Tryz.prog 202 #[.string ⟨s.toArray⟩,.string ⟨t.toArray⟩] w fun e w'=>e=.returned (.bool (Op.bytesLess s t))∧w=w':=by
 have h:=less_string ⟨s.toArray⟩ ⟨t.toArray⟩ w;rw[ByteArray.toList_eq,ByteArray.toList_eq]at h;exact h
theorem bsearch_any (ns:List (List UInt8)) (s:List UInt8) (p:Option Addr) (cap:Nat) (hN:ns.length≤100000) (hr:RiseN ns) (w:World) (hc:∀ i,i<ns.length→∃ g o,p=some ⟨g,o,none⟩∧w.cell? ⟨g,o+i,none⟩=some (.string ⟨(ns.getD i []).toArray⟩)) :
  Calls Tryz.prog 194 #[.slice p ns.length cap,.string ⟨s.toArray⟩] w fun e w'=>e=.returned (.tuple #[.int .i64 (aheadN ns s:Nat),.bool (decide (ns[aheadN ns s]?=some s))])∧w=w':=by
 have HC:=zh hc;have HI:=zh (fun k h0 h1 h2=>ahead_is (ns:=ns) (s:=s) (k:=k) h0 h1 h2);have HR:=zh hr;have HL:=zh less_list;have HNn:=zh (fun n w=>nan_string2 n w);clear hc hr;obtain⟨k,hk⟩:∃ k,k=aheadN ns s:=⟨_,rfl⟩;rw[←hk];have HK:=zh hk;clear hk;generalize hM:ns.length=N at *;have HM:=zh hM;clear hM;go_in;go_wp2_with fail
 go_loop [7,8] (fun iv jv=>∃ i j:Nat,i≤j∧j≤N∧iv=.int .i64 i∧jv=.int .i64 j∧Hid (∀ k,k<i→Op.bytesLess (ns.getD k []) s=true)∧Hid (∀ k,j≤k→k<N→Op.bytesLess (ns.getD k []) s=false)) (fun iv jv=>(intOf jv).toNat - (intOf iv).toNat)
 case atStart=>exact⟨0,N,by omega,by omega,rfl,rfl,fun k hk=>absurd hk (by omega),fun k h1 h2=>absurd h2 (by omega)⟩
 case round =>
  obtain⟨i,j,hij,hj,rfl,rfl,hlo,hhi⟩:=hrel;by_cases hlt:i<j
  ·have t0:decide ((i:Int)<(j:Int))=true:=by simp;omega
   obtain⟨h,hh⟩:∃ h:Nat,h=(i+j) / 2:=⟨_,rfl⟩;have h1:i≤h:=by omega
   have h2:h<j:=by omega
   obtain⟨g,o,rfl,x0⟩:=HC.out h (by omega);have w1:IntKind.i64.wrap ((i:Int)+(j:Int))=(i:Int)+(j:Int):=by rw[IntKind.wrap_i64];omega
   have w2:IntKind.u64.wrap ((i:Int)+(j:Int))=(i:Int)+(j:Int):=by rw[IntKind.wrap_u64];omega
   have hhi2:((i:Int)+(j:Int)) / 2=(h:Int):=by omega
   have w4:IntKind.i64.wrap (((i:Int)+(j:Int)) / 2)=((i:Int)+(j:Int)) / 2:=by rw[hhi2,IntKind.wrap_i64];omega
   have w5:IntKind.u64.wrap (((i:Int)+(j:Int)) / 2)=((i:Int)+(j:Int)) / 2:=by rw[hhi2,IntKind.wrap_u64];omega
   have w6:IntKind.i64.wrap (((i:Int)+(j:Int)) / 2+1)=((i:Int)+(j:Int)) / 2+1:=by rw[hhi2,IntKind.wrap_i64];omega
   have b1:(0:Int)≤((i:Int)+(j:Int)) / 2:=by omega
   have b2:((i:Int)+(j:Int)) / 2<(N:Int):=by omega
   rw[hh]at x0;have HH:=zh hh;have H1:=zh h1;have H2:=zh h2;have HHi:=zh hhi2;have HG:=zh (fun(q:Bool) (e:Op.bytesLess (ns.getD ((i+j) / 2) []) s=q)=>(show Op.bytesLess (ns.getD h []) s=q from by rw[hh];exact e));clear hh h1 h2 hhi2;generalize ns.getD ((i+j) / 2) []=t at *;cases hl:Op.bytesLess t s
   ·have HLt:=zh (show Calls _ _ _ w _ from by have:=HL.out t s w;rw[hl]at this;exact this);have HF:=zh (show ∀ k,h≤k→k<N→Op.bytesLess (ns.getD k []) s=false from fun k g1 g2=>by
     have e0:=HG.out _ hl;rcases Nat.eq_or_lt_of_le g1 with e|e
     ·rw[←e];exact e0
     ·cases e1:Op.bytesLess (ns.getD k []) s
      ·rfl
      ·rw[less_trans' (rise_lt HR.out e (by rw[HM.out];exact g2)) e1]at e0;cases e0)
    clear hl;go_wp2_with fail
    refine(HLt.out).mono ?_;rintro e w2 ⟨rfl,rfl⟩;go_wp2_with fail
    go_round
    case rel=>exact⟨i,h,H1.out,Nat.le_trans (Nat.le_of_lt H2.out) hj,rfl,by rw[HHi.out],hlo,HF.out⟩
    case measure=>have:=HHi.out;have:=H1.out;have:=H2.out;simp[intOf];omega
   ·have HLt:=zh (show Calls _ _ _ w _ from by have:=HL.out t s w;rw[hl]at this;exact this);have HF:=zh (show ∀ k,k<h+1→Op.bytesLess (ns.getD k []) s=true from fun k g1=>by
     have e0:=HG.out _ hl;rcases Nat.eq_or_lt_of_le (Nat.le_of_lt_succ g1)with e|e
     ·rw[e];exact e0
     ·exact less_trans' (rise_lt HR.out e (by rw[HM.out];exact Nat.lt_of_lt_of_le H2.out hj)) e0)
    clear hl;go_wp2_with fail
    refine(HLt.out).mono ?_;rintro e w2 ⟨rfl,rfl⟩;go_wp2_with fail
    go_round
    case rel=>exact⟨h+1,j,H2.out,hj,by rw[HHi.out];rfl,rfl,HF.out,hhi⟩
    case measure=>have:=HHi.out;have:=H1.out;have:=H2.out;simp[intOf];omega
  ·obtain rfl:i=j:=by omega
   have t0:decide ((i:Int)<(i:Int))=false:=by simp
   have t0':¬ i<i:=by omega
   have hk:i=k:=(HI.out i hj hlo.out hhi.out).trans HK.out.symm;subst hk;by_cases hN2:i<N
   ·obtain⟨g,o,rfl,x0⟩:=HC.out i hN2;have t1:decide ((i:Int)<(N:Int))=true:=by simp;omega
    have b1:(0:Int)≤(i:Int):=by omega
    have b2:(i:Int)<(N:Int):=by omega
    have hgi:ns[i]?=some (ns.getD i []):=by simp[List.getD,show i<ns.length by rw[HM.out];exact hN2]
    have HGi:=zh hgi;clear hgi;have HNt:=zh (fun n=>HNn.out n w);generalize ns.getD i []=t at *;by_cases he:t=s
    ·have e1:(t==s)=true:=by rw[he];exact beq_self_eq_true _
     have HE:=zh (show decide (some t=some s)=true by rw[he];simp);clear he;go_wp2_with fail
     go_ret2;exact⟨ret_val (by rw[HGi.out,HE.out];rfl),rfl⟩
    ·have e1:(t==s)=false:=beq_eq_false_iff_ne.2 he;have HE:=zh (show decide (some t=some s)=false by simp[he]);clear he;go_wp2_with fail
     refine(HNt.out _).mono ?_;rintro e w2 ⟨rfl,rfl⟩;go_wp2_with fail
     go_ret2;exact⟨ret_val (by rw[HGi.out,HE.out];rfl),rfl⟩
   ·have t1:decide ((i:Int)<(N:Int))=false:=by simp;omega
    have hgi:ns[i]?=none:=List.getElem?_eq_none (by rw[HM.out];omega);have HGi:=zh hgi;clear hgi;go_wp2_with fail
    go_ret2;exact⟨ret_val (by rw[HGi.out];rfl),rfl⟩
end
end Go.Proofs.YtaaaaggmhjhkkaaGreatDoor
