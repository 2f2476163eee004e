/-
  H4 in one text.
-/
import Derived.Test.YtaaaaggmhjhkkaaGreatDoorS28
import Derived.Test.YtaaaaggmhjhkkaaGreatDoorS35
import Derived.Test.YtaaaaggmhjhkkaaGreatDoorS37
import Derived.Test.YtaaaaggmhjhkkaaGreatDoorCl
set_option maxRecDepth 100000
set_option maxHeartbeats 4000000
namespace Go.Proofs.YtaaaaggmhjhkkaaGreatDoor
open Go.RowKit
theorem below_drewE {B:Nat} {a w:World} (h:Below B a w) (n:Nat):Below B a (w.drewN n):=h.trans ⟨rfl,rfl,rfl,Nat.le_refl _,fun _ _=>rfl⟩
theorem rsame8_any:∀ (d d2:Nat) (a b:ET) (ca cb:Array Value) (w:World),ExAt' w d a ca→ExAt' w d2 b cb→canE a=canE b →
  Calls Tryz.prog 16 #[.agg ca,.agg cb] w (Gives (.bool true) w)
 | 0,_,_,_,_,_,_,h,_,_=>h.elim
 | _+1,0,_,_,_,_,_,_,h,_=>h.elim
 | d+1,d2+1,a,b,ca,cb,w,ha,hb,hab=>by
  have IH:=@rsame8_any d;obtain⟨q1,q2,q3,q4,q5⟩:=canE_eq hab;obtain⟨qn,qi,pn,pk,rfl,h2,h3,⟨dv,h4⟩,h5,h7,h8⟩:=ha;obtain⟨qn',qi',pn',pk',rfl,g2,g3,⟨dv',h4'⟩,h5',g7,h8'⟩:=hb;have hS:=h5.at;have hS':=h5'.at;rw[←q4]at hS';obtain⟨np,nc,rfl⟩:=hS.lenOf;obtain⟨np',nc',rfl⟩:=hS'.lenOf;have hns:∀ i,i<a.names.length→∃ g off,np=some ⟨g,off,none⟩∧g<w.heap.size∧∀ j,j<a.names.length→w.cell? ⟨g,off+j,none⟩=some (.string ⟨(a.names.getD j []).toArray⟩):=by
   obtain⟨_,_,h3⟩:=hS;rcases h3 with ⟨h3,p,c,hp⟩|⟨g,off,cap,hp,hg,hc⟩
   ·intro i hi;rw[h3]at hi;simp at hi
   ·cases hp
    exact fun i hi=>⟨g,off,rfl,hg,hc⟩
  have hns':∀ i,i<a.names.length→∃ g off,np'=some ⟨g,off,none⟩∧g<w.heap.size∧∀ j,j<a.names.length→w.cell? ⟨g,off+j,none⟩=some (.string ⟨(a.names.getD j []).toArray⟩):=by
   obtain⟨_,_,h3⟩:=hS';rcases h3 with ⟨h3,p,c,hp⟩|⟨g,off,cap,hp,hg,hc⟩
   ·intro i hi;rw[h3]at hi;simp at hi
   ·cases hp
    exact fun i hi=>⟨g,off,rfl,hg,hc⟩
  have hM:=hS.1;have hkl:b.kids.length=a.kids.length:=by rw[←canEL_length a.kids,q5,canEL_length]
  have hck:∀ i,i<a.kids.length→canE (a.kids.getD i noET)=canE (b.kids.getD i noET):=fun i hi=>by
   rw[←canEL_get _ _ hi,q5,canEL_get _ _ (by omega)]
  have hk8:∃ p cap,pk=.slice p a.kids.length cap∧∀ i,i<a.kids.length→∃ g off,p=some ⟨g,off,none⟩∧g<w.heap.size∧∃ ds,ExAt' w d (a.kids.getD i noET) ds∧∀ j,j<10→w.cell? ⟨g,off+i*10+j,none⟩=ds[j]?:=by
   rcases h8 with ⟨h8,p,c,hp⟩|⟨g,off,cap,hp,hg,hc⟩
   ·rw[h8];exact⟨p,c,hp,fun i hi=>absurd hi (by simp)⟩
   ·exact⟨_,cap,hp,fun i hi=>⟨g,off,rfl,hg.2,hc i hi⟩⟩
  have hk8':∃ p cap,pk'=.slice p a.kids.length cap∧∀ i,i<a.kids.length→∃ g off,p=some ⟨g,off,none⟩∧g<w.heap.size∧∃ ds,ExAt' w d2 (b.kids.getD i noET) ds∧∀ j,j<10→w.cell? ⟨g,off+i*10+j,none⟩=ds[j]?:=by
   rw[←hkl];rcases h8' with ⟨h8,p,c,hp⟩|⟨g,off,cap,hp,hg,hc⟩
   ·rw[h8];exact⟨p,c,hp,fun i hi=>absurd hi (by simp)⟩
   ·exact⟨_,cap,hp,fun i hi=>⟨g,off,rfl,hg.2,hc i hi⟩⟩
  obtain⟨p,cap,rfl,h9⟩:=hk8;obtain⟨p',cap',rfl,h9'⟩:=hk8';rw[←q1,←q2];obtain⟨ks,hks⟩:∃ ks,ks=a.kids:=⟨_,rfl⟩;obtain⟨ks',hks'⟩:∃ ks,ks=b.kids:=⟨_,rfl⟩;rw[←hks]at h9 h9' hck h7 ⊢
  rw[←hks']at h9' hck;have v4:=h4.at;have v4':=h4'.at;have hs:∀ w',Below w.heap.size w w'→Calls Tryz.prog 34 #[.agg #[.int .i64 a.v.kind,.int .i64 a.v.num,.float .f64 a.v.flt,.string ⟨a.v.str.toArray⟩,qn,qi],.agg #[.int .i64 b.v.kind,.int .i64 b.v.num,.float .f64 b.v.flt,.string ⟨b.v.str.toArray⟩,qn',qi']] w' (Gives (.bool true) w'):=fun w' hb=>by
   have:=rSame_any _ _ a.v b.v _ _ w' (v4.kept hb) (v4'.kept hb);rw[sameV_can q3]at this;exact this
  have HV:=zh hs;have HIH:=zh IH;have HCK:=zh hck;clear g2 g3 g7 hs IH hck v4 v4' h4 h4' h5 h5' h8 h8' hS hS' h2 h3 hab q1 q2 q3 q4 q5 hkl hks hks';generalize a.v=v at *;generalize b.v=v' at *;generalize a.kind=k0 at *;generalize (⟨a.str.toArray⟩:ByteArray)=S0 at *;generalize a.names=ns at *;generalize ns.length=M at *;generalize hN:ks.length=N at *;clear a b;have hB1:Below w.heap.size w (w.alloc (.cells #[.int .i64 k0,.string S0,.int .i64 v.kind,.int .i64 v.num,.float .f64 v.flt,.string ⟨v.str.toArray⟩,qn,qi,.slice np M nc,.slice p N cap] 29)):=(Below.refl _ _).alloc (Nat.le_refl _) _;have hB:=hB1.alloc (o:=.cells #[.int .i64 k0,.string S0,.int .i64 v'.kind,.int .i64 v'.num,.float .f64 v'.flt,.string ⟨v'.str.toArray⟩,qn',qi',.slice np' M nc',.slice p' N cap'] 29) hB1.size;have hnB:((w.alloc (.cells #[.int .i64 k0,.string S0,.int .i64 v.kind,.int .i64 v.num,.float .f64 v.flt,.string ⟨v.str.toArray⟩,qn,qi,.slice np M nc,.slice p N cap] 29)).alloc (.cells #[.int .i64 k0,.string S0,.int .i64 v'.kind,.int .i64 v'.num,.float .f64 v'.flt,.string ⟨v'.str.toArray⟩,qn',qi',.slice np' M nc',.slice p' N cap'] 29)).heap[w.heap.size+1]?=some (.cells #[.int .i64 k0,.string S0,.int .i64 v'.kind,.int .i64 v'.num,.float .f64 v'.flt,.string ⟨v'.str.toArray⟩,qn',qi',.slice np' M nc',.slice p' N cap'] 29 (0,0)):=by
   have:=heap_alloc_new (w.alloc (.cells #[.int .i64 k0,.string S0,.int .i64 v.kind,.int .i64 v.num,.float .f64 v.flt,.string ⟨v.str.toArray⟩,qn,qi,.slice np M nc,.slice p N cap] 29)) (.cells #[.int .i64 k0,.string S0,.int .i64 v'.kind,.int .i64 v'.num,.float .f64 v'.flt,.string ⟨v'.str.toArray⟩,qn',qi',.slice np' M nc',.slice p' N cap'] 29);rwa [show(w.alloc (.cells #[.int .i64 k0,.string S0,.int .i64 v.kind,.int .i64 v.num,.float .f64 v.flt,.string ⟨v.str.toArray⟩,qn,qi,.slice np M nc,.slice p N cap] 29)).heap.size=w.heap.size+1 from by simp]at this
  have hnA:((w.alloc (.cells #[.int .i64 k0,.string S0,.int .i64 v.kind,.int .i64 v.num,.float .f64 v.flt,.string ⟨v.str.toArray⟩,qn,qi,.slice np M nc,.slice p N cap] 29)).alloc (.cells #[.int .i64 k0,.string S0,.int .i64 v'.kind,.int .i64 v'.num,.float .f64 v'.flt,.string ⟨v'.str.toArray⟩,qn',qi',.slice np' M nc',.slice p' N cap'] 29)).heap[w.heap.size]?=some (.cells #[.int .i64 k0,.string S0,.int .i64 v.kind,.int .i64 v.num,.float .f64 v.flt,.string ⟨v.str.toArray⟩,qn,qi,.slice np M nc,.slice p N cap] 29 (0,0)):=by
   have h1:=heap_alloc_new w (.cells #[.int .i64 k0,.string S0,.int .i64 v.kind,.int .i64 v.num,.float .f64 v.flt,.string ⟨v.str.toArray⟩,qn,qi,.slice np M nc,.slice p N cap] 29);have h2:Below (w.alloc (.cells #[.int .i64 k0,.string S0,.int .i64 v.kind,.int .i64 v.num,.float .f64 v.flt,.string ⟨v.str.toArray⟩,qn,qi,.slice np M nc,.slice p N cap] 29)).heap.size (w.alloc (.cells #[.int .i64 k0,.string S0,.int .i64 v.kind,.int .i64 v.num,.float .f64 v.flt,.string ⟨v.str.toArray⟩,qn,qi,.slice np M nc,.slice p N cap] 29)) ((w.alloc (.cells #[.int .i64 k0,.string S0,.int .i64 v.kind,.int .i64 v.num,.float .f64 v.flt,.string ⟨v.str.toArray⟩,qn,qi,.slice np M nc,.slice p N cap] 29)).alloc (.cells #[.int .i64 k0,.string S0,.int .i64 v'.kind,.int .i64 v'.num,.float .f64 v'.flt,.string ⟨v'.str.toArray⟩,qn',qi',.slice np' M nc',.slice p' N cap'] 29)):=(Below.refl _ _).alloc (Nat.le_refl _) _;exact(h2.block w.heap.size (by simp)).trans h1
  have hsz:((w.alloc (.cells #[.int .i64 k0,.string S0,.int .i64 v.kind,.int .i64 v.num,.float .f64 v.flt,.string ⟨v.str.toArray⟩,qn,qi,.slice np M nc,.slice p N cap] 29)).alloc (.cells #[.int .i64 k0,.string S0,.int .i64 v'.kind,.int .i64 v'.num,.float .f64 v'.flt,.string ⟨v'.str.toArray⟩,qn',qi',.slice np' M nc',.slice p' N cap'] 29)).heap.size=w.heap.size+2:=by simp
  clear hB1;obtain⟨W1,hW⟩:∃ W1,W1=(w.alloc (.cells #[.int .i64 k0,.string S0,.int .i64 v.kind,.int .i64 v.num,.float .f64 v.flt,.string ⟨v.str.toArray⟩,qn,qi,.slice np M nc,.slice p N cap] 29)).alloc (.cells #[.int .i64 k0,.string S0,.int .i64 v'.kind,.int .i64 v'.num,.float .f64 v'.flt,.string ⟨v'.str.toArray⟩,qn',qi',.slice np' M nc',.slice p' N cap'] 29):=⟨_,rfl⟩;rw[←hW]at hB hnA hnB hsz;have HW:=zh hW.symm;clear hW;have HBl:=zh (fun w' (hb:Below W1.heap.size W1 w')=>(show _∧_ from⟨(hb.block w.heap.size (by omega)).trans hnA,(hb.block (w.heap.size+1) (by omega)).trans hnB⟩));have HUp:=zh (fun w' (hb:Below W1.heap.size W1 w')=>(show Below w.heap.size w w' from hB.trans (hb.mono (by omega))));have HSz:=zh hsz;have HNS:=zh hns;have HNS':=zh hns';have H9:=zh h9;have H9':=zh h9';clear hns hns' h9 h9' hnA hnB hsz hB;generalize hgh:w.heap.size=H at *;have HH:=zh hgh;clear hgh;go_in;go_upto_region 1 with (fail)
  rw[HH.out];rw[HW.out];obtain⟨nA,nB⟩:=HBl.out _ (Below.refl _ _);have a0:W1.cell? ⟨H,0,none⟩=some (.int .i64 k0):=by rw[zc nA];rfl
  have b0:W1.cell? ⟨H+1,0,none⟩=some (.int .i64 k0):=by rw[zc nB];rfl
  have a1:W1.cell? ⟨H,1,none⟩=some (.string S0):=by rw[zc nA];rfl
  have b1:W1.cell? ⟨H+1,1,none⟩=some (.string S0):=by rw[zc nB];rfl
  have a2:W1.cell? ⟨H,2,none⟩=some (.int .i64 v.kind):=by rw[zc nA];rfl
  have b2:W1.cell? ⟨H+1,2,none⟩=some (.int .i64 v'.kind):=by rw[zc nB];rfl
  have a3:W1.cell? ⟨H,3,none⟩=some (.int .i64 v.num):=by rw[zc nA];rfl
  have b3:W1.cell? ⟨H+1,3,none⟩=some (.int .i64 v'.num):=by rw[zc nB];rfl
  have a4:W1.cell? ⟨H,4,none⟩=some (.float .f64 v.flt):=by rw[zc nA];rfl
  have b4:W1.cell? ⟨H+1,4,none⟩=some (.float .f64 v'.flt):=by rw[zc nB];rfl
  have a5:W1.cell? ⟨H,5,none⟩=some (.string ⟨v.str.toArray⟩):=by rw[zc nA];rfl
  have b5:W1.cell? ⟨H+1,5,none⟩=some (.string ⟨v'.str.toArray⟩):=by rw[zc nB];rfl
  have a6:W1.cell? ⟨H,6,none⟩=some (qn):=by rw[zc nA];rfl
  have b6:W1.cell? ⟨H+1,6,none⟩=some (qn'):=by rw[zc nB];rfl
  have a7:W1.cell? ⟨H,7,none⟩=some (qi):=by rw[zc nA];rfl
  have b7:W1.cell? ⟨H+1,7,none⟩=some (qi'):=by rw[zc nB];rfl
  have a8:W1.cell? ⟨H,8,none⟩=some (.slice np M nc):=by rw[zc nA];rfl
  have b8:W1.cell? ⟨H+1,8,none⟩=some (.slice np' M nc'):=by rw[zc nB];rfl
  have a9:W1.cell? ⟨H,9,none⟩=some (.slice p N cap):=by rw[zc nA];rfl
  have b9:W1.cell? ⟨H+1,9,none⟩=some (.slice p' N cap'):=by rw[zc nB];rfl
  clear nA nB;go_wp2_with fail
  refine(HV.out _ (HUp.out _ (Below.refl _ _))).mono ?_;rintro e w2 ⟨rfl,hb2⟩;clear a0 b0 a1 b1 a2 b2 a3 b3 a4 b4 a5 b5 a6 b6 a7 b7 a8 b8 a9 b9;obtain⟨nA,nB⟩:=HBl.out _ hb2;have a0:w2.cell? ⟨H,0,none⟩=some (.int .i64 k0):=by rw[zc nA];rfl
  have b0:w2.cell? ⟨H+1,0,none⟩=some (.int .i64 k0):=by rw[zc nB];rfl
  have a1:w2.cell? ⟨H,1,none⟩=some (.string S0):=by rw[zc nA];rfl
  have b1:w2.cell? ⟨H+1,1,none⟩=some (.string S0):=by rw[zc nB];rfl
  have a2:w2.cell? ⟨H,2,none⟩=some (.int .i64 v.kind):=by rw[zc nA];rfl
  have b2:w2.cell? ⟨H+1,2,none⟩=some (.int .i64 v'.kind):=by rw[zc nB];rfl
  have a3:w2.cell? ⟨H,3,none⟩=some (.int .i64 v.num):=by rw[zc nA];rfl
  have b3:w2.cell? ⟨H+1,3,none⟩=some (.int .i64 v'.num):=by rw[zc nB];rfl
  have a4:w2.cell? ⟨H,4,none⟩=some (.float .f64 v.flt):=by rw[zc nA];rfl
  have b4:w2.cell? ⟨H+1,4,none⟩=some (.float .f64 v'.flt):=by rw[zc nB];rfl
  have a5:w2.cell? ⟨H,5,none⟩=some (.string ⟨v.str.toArray⟩):=by rw[zc nA];rfl
  have b5:w2.cell? ⟨H+1,5,none⟩=some (.string ⟨v'.str.toArray⟩):=by rw[zc nB];rfl
  have a6:w2.cell? ⟨H,6,none⟩=some (qn):=by rw[zc nA];rfl
  have b6:w2.cell? ⟨H+1,6,none⟩=some (qn'):=by rw[zc nB];rfl
  have a7:w2.cell? ⟨H,7,none⟩=some (qi):=by rw[zc nA];rfl
  have b7:w2.cell? ⟨H+1,7,none⟩=some (qi'):=by rw[zc nB];rfl
  have a8:w2.cell? ⟨H,8,none⟩=some (.slice np M nc):=by rw[zc nA];rfl
  have b8:w2.cell? ⟨H+1,8,none⟩=some (.slice np' M nc'):=by rw[zc nB];rfl
  have a9:w2.cell? ⟨H,9,none⟩=some (.slice p N cap):=by rw[zc nA];rfl
  have b9:w2.cell? ⟨H+1,9,none⟩=some (.slice p' N cap'):=by rw[zc nB];rfl
  clear nA nB;go_wp2_with fail
  clear HV;clear a0 b0 a1 b1 a2 b2 a3 b3 a4 b4 a5 b5 a6 b6 a7 b7 a8 b8 a9 b9;go_loopw [5] (fun iv wr=>∃ i:Nat,i≤M∧iv=.int .i64 i∧Below W1.heap.size W1 wr) (fun iv _=>M - (intOf iv).toNat)
  case atStart=>exact⟨0,by omega,rfl,hb2⟩
  case round =>
   clear hb2;obtain⟨i,hi,rfl,hB2⟩:=hrel;obtain⟨nA,nB⟩:=HBl.out _ hB2;have a8:wr.cell? ⟨H,8,none⟩=some (.slice np M nc):=by rw[zc nA];rfl
   have b8:wr.cell? ⟨H+1,8,none⟩=some (.slice np' M nc'):=by rw[zc nB];rfl
   clear nA nB;by_cases hlt:i<M
   ·have t0:decide ((i:Int)<(M:Int))=true:=by simp;omega
    obtain⟨g,off,rfl,hg,hc⟩:=HNS.out i hlt;obtain⟨g',off',rfl,hg',hc'⟩:=HNS'.out i hlt;have hBw:=HUp.out _ hB2;have z1:wr.cell? ⟨g,off+i,none⟩=some (.string ⟨(ns.getD i []).toArray⟩):=(hBw.cell (p:=⟨g,off+i,none⟩) (by omega)).trans (hc i hlt);have z2:wr.cell? ⟨g',off'+i,none⟩=some (.string ⟨(ns.getD i []).toArray⟩):=(hBw.cell (p:=⟨g',off'+i,none⟩) (by omega)).trans (hc' i hlt);have b1:(0:Int)≤(i:Int):=by omega
    have b2:(i:Int)<(M:Int):=by omega
    clear hc hc' hBw;generalize (⟨(ns.getD i []).toArray⟩:ByteArray)=E at *;go_wp2_with fail
    go_quiet (fail)
    go_wp2_with fail
    go_roundw
    case rel=>exact⟨i+1,by omega,by go_num,below_drewE hB2 nq⟩
    case measure=>simp[intOf];omega
   ·have t0:decide ((i:Int)<(M:Int))=false:=by simp;omega
    clear HNS HNS';go_wp2_with fail
    clear a8 b8;go_loopw [6] (fun iv wx=>∃ i:Nat,i≤N∧iv=.int .i64 i∧Below W1.heap.size W1 wx) (fun iv _=>N - (intOf iv).toNat)
    case atStart=>exact⟨0,by omega,rfl,hB2⟩
    case round =>
     clear hB2 t0 hlt hi;obtain⟨i,hi,rfl,hB2⟩:=hrel;obtain⟨nA,nB⟩:=HBl.out _ hB2;have a9:wr.cell? ⟨H,9,none⟩=some (.slice p N cap):=by rw[zc nA];rfl
     have b9:wr.cell? ⟨H+1,9,none⟩=some (.slice p' N cap'):=by rw[zc nB];rfl
     clear nA nB;by_cases hlt:i<N
     ·have t0:decide ((i:Int)<(N:Int))=true:=by simp;omega
      obtain⟨g,off,rfl,hg,ds,hv,hcl⟩:=H9.out i hlt;obtain⟨g',off',rfl,hg',ds',hv',hcl'⟩:=H9'.out i hlt;obtain⟨qn2,qi2,pn2,pk2,rfl⟩:=hv.form;obtain⟨qn2',qi2',pn2',pk2',rfl⟩:=hv'.form;have hBw:=HUp.out _ hB2;have x0:wr.cell? ⟨g,off+i*10,none⟩=some (.int .i64 (ks.getD i noET).kind):=(hBw.cell (p:=⟨g,off+i*10+0,none⟩) hg).trans (hcl 0 (by decide));have y0:wr.cell? ⟨g',off'+i*10,none⟩=some (.int .i64 (ks'.getD i noET).kind):=(hBw.cell (p:=⟨g',off'+i*10+0,none⟩) hg').trans (hcl' 0 (by decide));have x1:wr.cell? ⟨g,off+i*10+1,none⟩=some (.string ⟨(ks.getD i noET).str.toArray⟩):=(hBw.cell (p:=⟨g,off+i*10+1,none⟩) hg).trans (hcl 1 (by decide));have y1:wr.cell? ⟨g',off'+i*10+1,none⟩=some (.string ⟨(ks'.getD i noET).str.toArray⟩):=(hBw.cell (p:=⟨g',off'+i*10+1,none⟩) hg').trans (hcl' 1 (by decide));have x2:wr.cell? ⟨g,off+i*10+2,none⟩=some (.int .i64 (ks.getD i noET).v.kind):=(hBw.cell (p:=⟨g,off+i*10+2,none⟩) hg).trans (hcl 2 (by decide));have y2:wr.cell? ⟨g',off'+i*10+2,none⟩=some (.int .i64 (ks'.getD i noET).v.kind):=(hBw.cell (p:=⟨g',off'+i*10+2,none⟩) hg').trans (hcl' 2 (by decide));have x3:wr.cell? ⟨g,off+i*10+3,none⟩=some (.int .i64 (ks.getD i noET).v.num):=(hBw.cell (p:=⟨g,off+i*10+3,none⟩) hg).trans (hcl 3 (by decide));have y3:wr.cell? ⟨g',off'+i*10+3,none⟩=some (.int .i64 (ks'.getD i noET).v.num):=(hBw.cell (p:=⟨g',off'+i*10+3,none⟩) hg').trans (hcl' 3 (by decide));have x4:wr.cell? ⟨g,off+i*10+4,none⟩=some (.float .f64 (ks.getD i noET).v.flt):=(hBw.cell (p:=⟨g,off+i*10+4,none⟩) hg).trans (hcl 4 (by decide));have y4:wr.cell? ⟨g',off'+i*10+4,none⟩=some (.float .f64 (ks'.getD i noET).v.flt):=(hBw.cell (p:=⟨g',off'+i*10+4,none⟩) hg').trans (hcl' 4 (by decide));have x5:wr.cell? ⟨g,off+i*10+5,none⟩=some (.string ⟨(ks.getD i noET).v.str.toArray⟩):=(hBw.cell (p:=⟨g,off+i*10+5,none⟩) hg).trans (hcl 5 (by decide));have y5:wr.cell? ⟨g',off'+i*10+5,none⟩=some (.string ⟨(ks'.getD i noET).v.str.toArray⟩):=(hBw.cell (p:=⟨g',off'+i*10+5,none⟩) hg').trans (hcl' 5 (by decide));have x6:wr.cell? ⟨g,off+i*10+6,none⟩=some (qn2):=(hBw.cell (p:=⟨g,off+i*10+6,none⟩) hg).trans (hcl 6 (by decide));have y6:wr.cell? ⟨g',off'+i*10+6,none⟩=some (qn2'):=(hBw.cell (p:=⟨g',off'+i*10+6,none⟩) hg').trans (hcl' 6 (by decide));have x7:wr.cell? ⟨g,off+i*10+7,none⟩=some (qi2):=(hBw.cell (p:=⟨g,off+i*10+7,none⟩) hg).trans (hcl 7 (by decide));have y7:wr.cell? ⟨g',off'+i*10+7,none⟩=some (qi2'):=(hBw.cell (p:=⟨g',off'+i*10+7,none⟩) hg').trans (hcl' 7 (by decide));have x8:wr.cell? ⟨g,off+i*10+8,none⟩=some (pn2):=(hBw.cell (p:=⟨g,off+i*10+8,none⟩) hg).trans (hcl 8 (by decide));have y8:wr.cell? ⟨g',off'+i*10+8,none⟩=some (pn2'):=(hBw.cell (p:=⟨g',off'+i*10+8,none⟩) hg').trans (hcl' 8 (by decide));have x9:wr.cell? ⟨g,off+i*10+9,none⟩=some (pk2):=(hBw.cell (p:=⟨g,off+i*10+9,none⟩) hg).trans (hcl 9 (by decide));have y9:wr.cell? ⟨g',off'+i*10+9,none⟩=some (pk2'):=(hBw.cell (p:=⟨g',off'+i*10+9,none⟩) hg').trans (hcl' 9 (by decide));have hBd:Below w.heap.size w wr.drew:=by rw[HH.out];exact hBw.drew
      have hC:=HIH.out d2 _ _ _ _ wr.drew (hv.keptA hBd) (hv'.keptA hBd) (HCK.out i hlt);have HC:=zh hC;generalize ks.getD i noET=x at *;generalize ks'.getD i noET=y at *;have b1:(0:Int)≤(i:Int):=by omega
      have b2:(i:Int)<(N:Int):=by omega
      clear hcl hcl' hv hv' hBd hC hBw;go_wp2_with fail
      refine wp_still_tailG 10 (by kernel_rfl) (by kernel_rfl) ?_;simp only[List.take_succ_cons,List.take_zero,List.drop_succ_cons,List.drop_zero];iterate 10 (refine StillG.step (fun K hK=>?_);go_simp;refine hK _ ?_;clear hK K)
      refine StillG.nil ?_;go_wp2_with fail
      refine(HC.out).mono ?_;rintro e w3 ⟨rfl,hb3⟩;go_wp2_with fail
      go_roundw
      case rel=>exact⟨i+1,by omega,by go_num,below_tr' hB2 (undrew hb3)⟩
      case measure=>simp[intOf];omega
     ·have t0:decide ((i:Int)<(N:Int))=false:=by simp;omega
      go_wp2_with fail
      go_ret;exact⟨ret_val rfl,by rw[HH.out];exact HUp.out _ hB2⟩
end Go.Proofs.YtaaaaggmhjhkkaaGreatDoor
