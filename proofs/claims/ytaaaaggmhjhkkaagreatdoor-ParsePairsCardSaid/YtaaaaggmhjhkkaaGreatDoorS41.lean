/-
  H5 in one text.
-/
import Derived.Test.YtaaaaggmhjhkkaaGreatDoorS35
import Derived.Test.YtaaaaggmhjhkkaaGreatDoorS40
import Derived.Test.YtaaaaggmhjhkkaaGreatDoorCl
set_option maxRecDepth 100000
set_option maxHeartbeats 1000000
namespace Go.Proofs.YtaaaaggmhjhkkaaGreatDoor
open Go.RowKit
theorem enters_psame:∀ args w,(callFunc 18 args).run Tryz.prog w=.ok (.enter 18 args) w:=enters_of Tryz.func18 (by kernel_rfl) rfl
theorem equalS_any (ns:List (List UInt8)) (p p':Option Addr) (cap cap':Nat) (w:World) (hN:ns.length≤140737488355328)
  (ha:∀ i,i<ns.length→∃ g off,p=some ⟨g,off,none⟩∧g<w.heap.size∧∀ j,j<ns.length→w.cell? ⟨g,off+j,none⟩=some (.string ⟨(ns.getD j []).toArray⟩))
  (hb:∀ i,i<ns.length→∃ g off,p'=some ⟨g,off,none⟩∧g<w.heap.size∧∀ j,j<ns.length→w.cell? ⟨g,off+j,none⟩=some (.string ⟨(ns.getD j []).toArray⟩)) :
  Calls Tryz.prog 38 #[.slice p ns.length cap,.slice p' ns.length cap'] w (Gives (.bool true) w):=by
 have HA:=zh ha;have HB:=zh hb;clear ha hb;generalize ns.length=N at *;go_in;go_wp2_with fail
 go_loopw [13] (fun iv wr=>∃ i:Nat,iv=.int .i64 (i:Int)∧i≤N∧∃ q,wr=w.drewN q) (fun iv _=>N - (intOf iv).toNat)
 case atStart=>exact⟨0,rfl,Nat.zero_le _,0,rfl⟩
 case round =>
  obtain⟨i,rfl,hi,q,rfl⟩:=hrel;by_cases hlt:i<N
  ·have t0:decide ((i:Int)<(N:Int))=true:=by simp;omega
   obtain⟨g,off,rfl,hg,hc⟩:=HA.out i hlt;obtain⟨g',off',rfl,hg',hc'⟩:=HB.out i hlt;have z1:=hc i hlt;have z2:=hc' i hlt;have b1:(0:Int)≤(i:Int):=by omega
   have b2:(i:Int)<(N:Int):=by omega
   clear hc hc';generalize (⟨(ns.getD i []).toArray⟩:ByteArray)=E at *;have y1:(w.drewN q).cell? ⟨g,off+i,none⟩=some (.string E):=z1;have y2:(w.drewN q).cell? ⟨g',off'+i,none⟩=some (.string E):=z2;clear z1 z2;generalize hX:w.drewN q=X at *;have HX:=zh hX;clear hX;go_wp2_with fail
   go_quiet (fail)
   go_wp2_with fail
   go_roundw
   case rel=>exact⟨i+1,by go_num,by omega,q+nq,by rw[←HX.out];simp[World.drewN_drewN]⟩
   case measure=>simp[intOf];omega
  ·have t0:decide ((i:Int)<(N:Int))=false:=by simp;omega
   go_wp2_with fail
   go_ret;exact⟨ret_val rfl,rfl,rfl,rfl,Nat.le_refl _,fun _ _=>rfl⟩
theorem equalF_any (d d2:Nat) (ks ks':List ET) (p p':Option Addr) (cap cap':Nat) (w:World)
  (ih:∀ (d2:Nat) (a b:ET) (ca cb:Array Value) (w:World),ExAt' w d a ca→ExAt' w d2 b cb→canE a=canE b→Calls Tryz.prog 18 #[.agg ca,.agg cb] w (Gives (.bool true) w))
  (hN:ks.length≤140737488355328) (hl:ks'.length=ks.length) (hck:∀ i,i<ks.length→canE (ks.getD i noET)=canE (ks'.getD i noET))
  (ha:∀ i,i<ks.length→∃ g off,p=some ⟨g,off,none⟩∧g<w.heap.size∧∃ ds,ExAt' w d (ks.getD i noET) ds∧∀ j,j<10→w.cell? ⟨g,off+i*10+j,none⟩=ds[j]?)
  (hb:∀ i,i<ks'.length→∃ g off,p'=some ⟨g,off,none⟩∧g<w.heap.size∧∃ ds,ExAt' w d2 (ks'.getD i noET) ds∧∀ j,j<10→w.cell? ⟨g,off+i*10+j,none⟩=ds[j]?) :
  Calls Tryz.prog 39 #[.slice p ks.length cap,.slice p' ks.length cap',.func (.func 18) #[] #[]] w (Gives (.bool true) w):=by
 have hsf:∀ (a:Addr) (x:Nat) (m:Mode) (w:World),(store a (.float .f64 x) m).run Tryz.prog w=stored Tryz.prog w a (.float .f64 x) m:=fun a x m w=>run_store _ w a _ m rfl
 have hen:=enters_psame;have HIA:=zh (fun i (hi:i<ks.length) x (h:Below w.heap.size w x)=>(show ∃ g off ds,p=some ⟨g,off,none⟩∧ExAt' x d (ks.getD i noET) ds∧x.cell? ⟨g,off+i*10,none⟩=ds[0]?∧x.cell? ⟨g,off+i*10+1,none⟩=ds[1]?∧x.cell? ⟨g,off+i*10+2,none⟩=ds[2]?∧x.cell? ⟨g,off+i*10+3,none⟩=ds[3]?∧x.cell? ⟨g,off+i*10+4,none⟩=ds[4]?∧x.cell? ⟨g,off+i*10+5,none⟩=ds[5]?∧x.cell? ⟨g,off+i*10+6,none⟩=ds[6]?∧x.cell? ⟨g,off+i*10+7,none⟩=ds[7]?∧x.cell? ⟨g,off+i*10+8,none⟩=ds[8]?∧x.cell? ⟨g,off+i*10+9,none⟩=ds[9]? from by
  obtain⟨g,off,h1,h2,ds,h3,h4⟩:=ha i hi;have hc:=fun j (hj:j<10)=>(h.cell (p:=⟨g,off+i*10+j,none⟩) h2).trans (h4 j hj)
  exact⟨g,off,ds,h1,h3.keptA h,hc 0 (by omega),hc 1 (by omega),hc 2 (by omega),hc 3 (by omega),hc 4 (by omega),hc 5 (by omega),hc 6 (by omega),hc 7 (by omega),hc 8 (by omega),hc 9 (by omega)⟩))
 have HIB:=zh (fun i (hi:i<ks'.length) x (h:Below w.heap.size w x)=>(show ∃ g off ds,p'=some ⟨g,off,none⟩∧ExAt' x d2 (ks'.getD i noET) ds∧x.cell? ⟨g,off+i*10,none⟩=ds[0]?∧x.cell? ⟨g,off+i*10+1,none⟩=ds[1]?∧x.cell? ⟨g,off+i*10+2,none⟩=ds[2]?∧x.cell? ⟨g,off+i*10+3,none⟩=ds[3]?∧x.cell? ⟨g,off+i*10+4,none⟩=ds[4]?∧x.cell? ⟨g,off+i*10+5,none⟩=ds[5]?∧x.cell? ⟨g,off+i*10+6,none⟩=ds[6]?∧x.cell? ⟨g,off+i*10+7,none⟩=ds[7]?∧x.cell? ⟨g,off+i*10+8,none⟩=ds[8]?∧x.cell? ⟨g,off+i*10+9,none⟩=ds[9]? from by
  obtain⟨g,off,h1,h2,ds,h3,h4⟩:=hb i hi;have hc:=fun j (hj:j<10)=>(h.cell (p:=⟨g,off+i*10+j,none⟩) h2).trans (h4 j hj)
  exact⟨g,off,ds,h1,h3.keptA h,hc 0 (by omega),hc 1 (by omega),hc 2 (by omega),hc 3 (by omega),hc 4 (by omega),hc 5 (by omega),hc 6 (by omega),hc 7 (by omega),hc 8 (by omega),hc 9 (by omega)⟩))
 have IH:=zh ih;have HCK:=zh hck;clear ha hb ih hck;rw[hl]at HIB;clear hl;generalize ks.length=N at *;go_in;go_wp2_with fail
 go_loopw [17] (fun iv wr=>∃ i:Nat,iv=.int .i64 (i:Int)∧i≤N∧Below w.heap.size w wr) (fun iv _=>N - (intOf iv).toNat)
 case atStart=>exact⟨0,rfl,Nat.zero_le _,Below.refl _ _⟩
 case round =>
  obtain⟨i,rfl,hi,hbr⟩:=hrel;by_cases hlt:i<N
  ·have t0:decide ((i:Int)<(N:Int))=true:=by simp;omega
   obtain⟨g,off,ds,rfl,hva,x0,x1,x2,x3,x4,x5,x6,x7,x8,x9⟩:=HIA.out i hlt wr hbr;have hcan:=HCK.out i hlt;generalize ks.getD i noET=va at *;have HCan:=zh hcan;clear hcan;obtain⟨q1,r1,s1,u1,n1,m1,k1,l1,rfl⟩:=hva.form4;simp at x0 x1 x2 x3 x4 x5 x6 x7 x8 x9;have b1:(0:Int)≤(i:Int):=by omega
   have b2:(i:Int)<(N:Int):=by omega
   have HVA:=zh hva;clear hva;go_upto_region 6 with (fail)
   have hg1:=heap_alloc_new wr (.cells #[.int .i64 va.kind,.string ⟨va.str.toArray⟩,.int .i64 va.v.kind,.int .i64 va.v.num,.float .f64 va.v.flt,.string ⟨va.v.str.toArray⟩,.slice q1 va.v.names.length r1,.slice s1 va.v.items.length u1,.slice n1 va.names.length m1,.slice k1 va.kids.length l1] 29);have hA1:Below wr.heap.size wr (wr.alloc (.cells #[.int .i64 va.kind,.string ⟨va.str.toArray⟩,.int .i64 va.v.kind,.int .i64 va.v.num,.float .f64 va.v.flt,.string ⟨va.v.str.toArray⟩,.slice q1 va.v.names.length r1,.slice s1 va.v.items.length u1,.slice n1 va.names.length m1,.slice k1 va.kids.length l1] 29)):=(Below.refl _ _).alloc (Nat.le_refl _) _;generalize wr.alloc (.cells #[.int .i64 va.kind,.string ⟨va.str.toArray⟩,.int .i64 va.v.kind,.int .i64 va.v.num,.float .f64 va.v.flt,.string ⟨va.v.str.toArray⟩,.slice q1 va.v.names.length r1,.slice s1 va.v.items.length u1,.slice n1 va.names.length m1,.slice k1 va.kids.length l1] 29)=W1 at *;clear x0 x1 x2 x3 x4 x5 x6 x7 x8 x9;have hb1:=below_tr' hbr hA1;have HVA1:=zh (HVA.out.keptA hA1);clear hA1 HVA;generalize wr.heap.size=H1 at *;obtain⟨g',off',ds',rfl,hvb,y0,y1,y2,y3,y4,y5,y6,y7,y8,y9⟩:=HIB.out i hlt W1 hb1;generalize ks'.getD i noET=vb at *;obtain⟨q2,r2,s2,u2,n2,m2,k2,l2,rfl⟩:=hvb.form4;simp at y0 y1 y2 y3 y4 y5 y6 y7 y8 y9;have HVB:=zh hvb;clear hvb;go_upto_region 7 with (fail)
   have hg2:=heap_alloc_new W1 (.cells #[.int .i64 vb.kind,.string ⟨vb.str.toArray⟩,.int .i64 vb.v.kind,.int .i64 vb.v.num,.float .f64 vb.v.flt,.string ⟨vb.v.str.toArray⟩,.slice q2 vb.v.names.length r2,.slice s2 vb.v.items.length u2,.slice n2 vb.names.length m2,.slice k2 vb.kids.length l2] 29);have hA2:Below W1.heap.size W1 (W1.alloc (.cells #[.int .i64 vb.kind,.string ⟨vb.str.toArray⟩,.int .i64 vb.v.kind,.int .i64 vb.v.num,.float .f64 vb.v.flt,.string ⟨vb.v.str.toArray⟩,.slice q2 vb.v.names.length r2,.slice s2 vb.v.items.length u2,.slice n2 vb.names.length m2,.slice k2 vb.kids.length l2] 29)):=(Below.refl _ _).alloc (Nat.le_refl _) _;generalize W1.alloc (.cells #[.int .i64 vb.kind,.string ⟨vb.str.toArray⟩,.int .i64 vb.v.kind,.int .i64 vb.v.num,.float .f64 vb.v.flt,.string ⟨vb.v.str.toArray⟩,.slice q2 vb.v.names.length r2,.slice s2 vb.v.items.length u2,.slice n2 vb.names.length m2,.slice k2 vb.kids.length l2] 29)=W2 at *;clear y0 y1 y2 y3 y4 y5 y6 y7 y8 y9;have hb2:=below_tr' hb1 hA2;replace hg1:=(hA2.block _ (lt_of_block hg1)).trans hg1;have HQ:=zh (IH.out d2 _ _ _ _ W2 (HVA1.out.keptA hA2) (HVB.out.keptA hA2) HCan.out);clear HVA1 HVB hA2 HCan;generalize W1.heap.size=H2 at *;obtain⟨a0,a1,a2,a3,a4,a5,a6,a7,a8,a9⟩:=cells10 hg1;obtain⟨c0,c1,c2,c3,c4,c5,c6,c7,c8,c9⟩:=cells10 hg2;clear hg1 hg2;go_wp2_with fail
   refine(HQ.out).mono ?_;rintro e w3 ⟨rfl,hb3⟩;go_wp2_with fail
   go_roundw
   case rel=>exact⟨i+1,by go_num,by omega,below_tr' hb2 hb3⟩
   case measure=>simp[intOf];omega
  ·have t0:decide ((i:Int)<(N:Int))=false:=by simp;omega
   go_wp2_with fail
   go_ret;exact⟨ret_val rfl,hbr⟩
theorem psame_any:∀ (d d2:Nat) (a b:ET) (ca cb:Array Value) (w:World),ExAt' w d a ca→ExAt' w d2 b cb→canE a=canE b →
  Calls Tryz.prog 18 #[.agg ca,.agg cb] w (Gives (.bool true) w)
 | 0,_,_,_,_,_,_,h,_,_=>h.elim
 | _+1,0,_,_,_,_,_,_,h,_=>h.elim
 | d+1,d2+1,a,b,ca,cb,w,ha,hb,hab=>by
  have IH:=@psame_any d;obtain⟨q1,q2,q3,q4,q5⟩:=canE_eq hab;obtain⟨qn,qi,pn,pk,rfl,h2,h3,⟨dv,h4⟩,h5,h7,h8⟩:=ha;obtain⟨qn',qi',pn',pk',rfl,g2,g3,⟨dv',h4'⟩,h5',g7,h8'⟩:=hb;have hS:=h5.at;have hS':=h5'.at;rw[←q4]at hS';obtain⟨np,nc,rfl⟩:=hS.lenOf;obtain⟨np',nc',rfl⟩:=hS'.lenOf;have hns:∀ i,i<a.names.length→∃ g off,np=some ⟨g,off,none⟩∧g<w.heap.size∧∀ j,j<a.names.length→w.cell? ⟨g,off+j,none⟩=some (.string ⟨(a.names.getD j []).toArray⟩):=by
   obtain⟨_,_,h3⟩:=hS;rcases h3 with ⟨h3,p,c,hp⟩|⟨g,off,cap,hp,hg,hc⟩
   ·intro i hi;rw[h3]at hi;simp at hi
   ·cases hp
    exact fun i hi=>⟨g,off,rfl,hg,hc⟩
  have hns':∀ i,i<a.names.length→∃ g off,np'=some ⟨g,off,none⟩∧g<w.heap.size∧∀ j,j<a.names.length→w.cell? ⟨g,off+j,none⟩=some (.string ⟨(a.names.getD j []).toArray⟩):=by
   obtain⟨_,_,h3⟩:=hS';rcases h3 with ⟨h3,p,c,hp⟩|⟨g,off,cap,hp,hg,hc⟩
   ·intro i hi;rw[h3]at hi;simp at hi
   ·cases hp
    exact fun i hi=>⟨g,off,rfl,hg,hc⟩
  have hM:=hS.1;have hkl:b.kids.length=a.kids.length:=by rw[←canEL_length a.kids,q5,canEL_length]
  have hck:∀ i,i<a.kids.length→canE (a.kids.getD i noET)=canE (b.kids.getD i noET):=fun i hi=>by
   rw[←canEL_get _ _ hi,q5,canEL_get _ _ (by omega)]
  have hk8:∃ p cap,pk=.slice p a.kids.length cap∧∀ i,i<a.kids.length→∃ g off,p=some ⟨g,off,none⟩∧g<w.heap.size∧∃ ds,ExAt' w d (a.kids.getD i noET) ds∧∀ j,j<10→w.cell? ⟨g,off+i*10+j,none⟩=ds[j]?:=by
   rcases h8 with ⟨h8,p,c,hp⟩|⟨g,off,cap,hp,hg,hc⟩
   ·rw[h8];exact⟨p,c,hp,fun i hi=>absurd hi (by simp)⟩
   ·exact⟨_,cap,hp,fun i hi=>⟨g,off,rfl,hg.2,hc i hi⟩⟩
  have hk8':∃ p cap,pk'=.slice p a.kids.length cap∧∀ i,i<a.kids.length→∃ g off,p=some ⟨g,off,none⟩∧g<w.heap.size∧∃ ds,ExAt' w d2 (b.kids.getD i noET) ds∧∀ j,j<10→w.cell? ⟨g,off+i*10+j,none⟩=ds[j]?:=by
   rw[←hkl];rcases h8' with ⟨h8,p,c,hp⟩|⟨g,off,cap,hp,hg,hc⟩
   ·rw[h8];exact⟨p,c,hp,fun i hi=>absurd hi (by simp)⟩
   ·exact⟨_,cap,hp,fun i hi=>⟨g,off,rfl,hg.2,hc i hi⟩⟩
  obtain⟨p,cap,rfl,h9⟩:=hk8;obtain⟨p',cap',rfl,h9'⟩:=hk8';rw[←q1,←q2];obtain⟨ks,hks⟩:∃ ks,ks=a.kids:=⟨_,rfl⟩;obtain⟨ks',hks'⟩:∃ ks,ks=b.kids:=⟨_,rfl⟩;rw[←hks]at h9 h9' hck h7 ⊢
  rw[←hks']at h9' hck;have v4:=h4.at;have v4':=h4'.at;have hs:∀ w',Below w.heap.size w w'→Calls Tryz.prog 37 #[.agg #[.int .i64 a.v.kind,.int .i64 a.v.num,.float .f64 a.v.flt,.string ⟨a.v.str.toArray⟩,qn,qi],.agg #[.int .i64 b.v.kind,.int .i64 b.v.num,.float .f64 b.v.flt,.string ⟨b.v.str.toArray⟩,qn',qi']] w' (Gives (.bool true) w'):=fun w' hb=>by
   have:=vSame_any _ _ a.v b.v _ _ w' (v4.kept hb) (v4'.kept hb);rw[sameV_can q3]at this;exact this
  have hkk:ks'.length=ks.length:=by rw[hks,hks'];exact hkl
  have hes:∀ w',Below w.heap.size w w'→Calls Tryz.prog 38 #[.slice np a.names.length nc,.slice np' a.names.length nc'] w' (Gives (.bool true) w'):=fun w' hb=>equalS_any a.names np np' nc nc' w' hM
   (fun i hi=>by
    obtain⟨g,off,h1,h2,h3⟩:=hns i hi;exact⟨g,off,h1,Nat.lt_of_lt_of_le h2 hb.size,fun j hj=>(hb.cell (p:=⟨g,off+j,none⟩) h2).trans (h3 j hj)⟩)
   (fun i hi=>by
    obtain⟨g,off,h1,h2,h3⟩:=hns' i hi;exact⟨g,off,h1,Nat.lt_of_lt_of_le h2 hb.size,fun j hj=>(hb.cell (p:=⟨g,off+j,none⟩) h2).trans (h3 j hj)⟩)
  have hef:∀ w',Below w.heap.size w w'→Calls Tryz.prog 39 #[.slice p ks.length cap,.slice p' ks.length cap',.func (.func 18) #[] #[]] w' (Gives (.bool true) w'):=fun w' hb=>equalF_any d d2 ks ks' p p' cap cap' w' IH h7 hkk hck
   (fun i hi=>by
    obtain⟨g,off,h1,h2,ds,h3,h4⟩:=h9 i hi;exact⟨g,off,h1,Nat.lt_of_lt_of_le h2 hb.size,ds,h3.keptA hb,fun j hj=>(hb.cell (p:=⟨g,off+i*10+j,none⟩) h2).trans (h4 j hj)⟩)
   (fun i hi=>by
    obtain⟨g,off,h1,h2,ds,h3,h4⟩:=h9' i (by omega);exact⟨g,off,h1,Nat.lt_of_lt_of_le h2 hb.size,ds,h3.keptA hb,fun j hj=>(hb.cell (p:=⟨g,off+i*10+j,none⟩) h2).trans (h4 j hj)⟩)
  have HES:=zh hes;have HEF:=zh hef;clear hes hef hkk;have HV:=zh hs;have HIH:=zh IH;have HCK:=zh hck;clear g2 g3 g7 hs IH hck v4 v4' h4 h4' h5 h5' h8 h8' hS hS' h2 h3 hab q1 q2 q3 q4 q5 hkl hks hks';generalize a.v=v at *;generalize b.v=v' at *;generalize a.kind=k0 at *;generalize (⟨a.str.toArray⟩:ByteArray)=S0 at *;generalize a.names=ns at *;generalize ns.length=M at *;generalize hN:ks.length=N at *;clear a b;have hB1:Below w.heap.size w (w.alloc (.cells #[.int .i64 k0,.string S0,.int .i64 v.kind,.int .i64 v.num,.float .f64 v.flt,.string ⟨v.str.toArray⟩,qn,qi,.slice np M nc,.slice p N cap] 29)):=(Below.refl _ _).alloc (Nat.le_refl _) _;have hB:=hB1.alloc (o:=.cells #[.int .i64 k0,.string S0,.int .i64 v'.kind,.int .i64 v'.num,.float .f64 v'.flt,.string ⟨v'.str.toArray⟩,qn',qi',.slice np' M nc',.slice p' N cap'] 29) hB1.size;have hnB:((w.alloc (.cells #[.int .i64 k0,.string S0,.int .i64 v.kind,.int .i64 v.num,.float .f64 v.flt,.string ⟨v.str.toArray⟩,qn,qi,.slice np M nc,.slice p N cap] 29)).alloc (.cells #[.int .i64 k0,.string S0,.int .i64 v'.kind,.int .i64 v'.num,.float .f64 v'.flt,.string ⟨v'.str.toArray⟩,qn',qi',.slice np' M nc',.slice p' N cap'] 29)).heap[w.heap.size+1]?=some (.cells #[.int .i64 k0,.string S0,.int .i64 v'.kind,.int .i64 v'.num,.float .f64 v'.flt,.string ⟨v'.str.toArray⟩,qn',qi',.slice np' M nc',.slice p' N cap'] 29 (0,0)):=by
   have:=heap_alloc_new (w.alloc (.cells #[.int .i64 k0,.string S0,.int .i64 v.kind,.int .i64 v.num,.float .f64 v.flt,.string ⟨v.str.toArray⟩,qn,qi,.slice np M nc,.slice p N cap] 29)) (.cells #[.int .i64 k0,.string S0,.int .i64 v'.kind,.int .i64 v'.num,.float .f64 v'.flt,.string ⟨v'.str.toArray⟩,qn',qi',.slice np' M nc',.slice p' N cap'] 29);rwa [show(w.alloc (.cells #[.int .i64 k0,.string S0,.int .i64 v.kind,.int .i64 v.num,.float .f64 v.flt,.string ⟨v.str.toArray⟩,qn,qi,.slice np M nc,.slice p N cap] 29)).heap.size=w.heap.size+1 from by simp]at this
  have hnA:((w.alloc (.cells #[.int .i64 k0,.string S0,.int .i64 v.kind,.int .i64 v.num,.float .f64 v.flt,.string ⟨v.str.toArray⟩,qn,qi,.slice np M nc,.slice p N cap] 29)).alloc (.cells #[.int .i64 k0,.string S0,.int .i64 v'.kind,.int .i64 v'.num,.float .f64 v'.flt,.string ⟨v'.str.toArray⟩,qn',qi',.slice np' M nc',.slice p' N cap'] 29)).heap[w.heap.size]?=some (.cells #[.int .i64 k0,.string S0,.int .i64 v.kind,.int .i64 v.num,.float .f64 v.flt,.string ⟨v.str.toArray⟩,qn,qi,.slice np M nc,.slice p N cap] 29 (0,0)):=by
   have h1:=heap_alloc_new w (.cells #[.int .i64 k0,.string S0,.int .i64 v.kind,.int .i64 v.num,.float .f64 v.flt,.string ⟨v.str.toArray⟩,qn,qi,.slice np M nc,.slice p N cap] 29);have h2:Below (w.alloc (.cells #[.int .i64 k0,.string S0,.int .i64 v.kind,.int .i64 v.num,.float .f64 v.flt,.string ⟨v.str.toArray⟩,qn,qi,.slice np M nc,.slice p N cap] 29)).heap.size (w.alloc (.cells #[.int .i64 k0,.string S0,.int .i64 v.kind,.int .i64 v.num,.float .f64 v.flt,.string ⟨v.str.toArray⟩,qn,qi,.slice np M nc,.slice p N cap] 29)) ((w.alloc (.cells #[.int .i64 k0,.string S0,.int .i64 v.kind,.int .i64 v.num,.float .f64 v.flt,.string ⟨v.str.toArray⟩,qn,qi,.slice np M nc,.slice p N cap] 29)).alloc (.cells #[.int .i64 k0,.string S0,.int .i64 v'.kind,.int .i64 v'.num,.float .f64 v'.flt,.string ⟨v'.str.toArray⟩,qn',qi',.slice np' M nc',.slice p' N cap'] 29)):=(Below.refl _ _).alloc (Nat.le_refl _) _;exact(h2.block w.heap.size (by simp)).trans h1
  have hsz:((w.alloc (.cells #[.int .i64 k0,.string S0,.int .i64 v.kind,.int .i64 v.num,.float .f64 v.flt,.string ⟨v.str.toArray⟩,qn,qi,.slice np M nc,.slice p N cap] 29)).alloc (.cells #[.int .i64 k0,.string S0,.int .i64 v'.kind,.int .i64 v'.num,.float .f64 v'.flt,.string ⟨v'.str.toArray⟩,qn',qi',.slice np' M nc',.slice p' N cap'] 29)).heap.size=w.heap.size+2:=by simp
  clear hB1;obtain⟨W1,hW⟩:∃ W1,W1=(w.alloc (.cells #[.int .i64 k0,.string S0,.int .i64 v.kind,.int .i64 v.num,.float .f64 v.flt,.string ⟨v.str.toArray⟩,qn,qi,.slice np M nc,.slice p N cap] 29)).alloc (.cells #[.int .i64 k0,.string S0,.int .i64 v'.kind,.int .i64 v'.num,.float .f64 v'.flt,.string ⟨v'.str.toArray⟩,qn',qi',.slice np' M nc',.slice p' N cap'] 29):=⟨_,rfl⟩;rw[←hW]at hB hnA hnB hsz;have HW:=zh hW.symm;clear hW;have HBl:=zh (fun w' (hb:Below W1.heap.size W1 w')=>(show _∧_ from⟨(hb.block w.heap.size (by omega)).trans hnA,(hb.block (w.heap.size+1) (by omega)).trans hnB⟩));have HUp:=zh (fun w' (hb:Below W1.heap.size W1 w')=>(show Below w.heap.size w w' from hB.trans (hb.mono (by omega))));have HSz:=zh hsz;have HNS:=zh hns;have HNS':=zh hns';have H9:=zh h9;have H9':=zh h9';clear hns hns' h9 h9' hnA hnB hsz hB;generalize hgh:w.heap.size=H at *;have HH:=zh hgh;clear hgh;go_in;go_upto_region 1 with (fail)
  rw[HH.out];rw[HW.out];obtain⟨nA,nB⟩:=HBl.out _ (Below.refl _ _);have a0:W1.cell? ⟨H,0,none⟩=some (.int .i64 k0):=by rw[zc nA];rfl
  have b0:W1.cell? ⟨H+1,0,none⟩=some (.int .i64 k0):=by rw[zc nB];rfl
  have a1:W1.cell? ⟨H,1,none⟩=some (.string S0):=by rw[zc nA];rfl
  have b1:W1.cell? ⟨H+1,1,none⟩=some (.string S0):=by rw[zc nB];rfl
  have a2:W1.cell? ⟨H,2,none⟩=some (.int .i64 v.kind):=by rw[zc nA];rfl
  have b2:W1.cell? ⟨H+1,2,none⟩=some (.int .i64 v'.kind):=by rw[zc nB];rfl
  have a3:W1.cell? ⟨H,3,none⟩=some (.int .i64 v.num):=by rw[zc nA];rfl
  have b3:W1.cell? ⟨H+1,3,none⟩=some (.int .i64 v'.num):=by rw[zc nB];rfl
  have a4:W1.cell? ⟨H,4,none⟩=some (.float .f64 v.flt):=by rw[zc nA];rfl
  have b4:W1.cell? ⟨H+1,4,none⟩=some (.float .f64 v'.flt):=by rw[zc nB];rfl
  have a5:W1.cell? ⟨H,5,none⟩=some (.string ⟨v.str.toArray⟩):=by rw[zc nA];rfl
  have b5:W1.cell? ⟨H+1,5,none⟩=some (.string ⟨v'.str.toArray⟩):=by rw[zc nB];rfl
  have a6:W1.cell? ⟨H,6,none⟩=some (qn):=by rw[zc nA];rfl
  have b6:W1.cell? ⟨H+1,6,none⟩=some (qn'):=by rw[zc nB];rfl
  have a7:W1.cell? ⟨H,7,none⟩=some (qi):=by rw[zc nA];rfl
  have b7:W1.cell? ⟨H+1,7,none⟩=some (qi'):=by rw[zc nB];rfl
  have a8:W1.cell? ⟨H,8,none⟩=some (.slice np M nc):=by rw[zc nA];rfl
  have b8:W1.cell? ⟨H+1,8,none⟩=some (.slice np' M nc'):=by rw[zc nB];rfl
  have a9:W1.cell? ⟨H,9,none⟩=some (.slice p N cap):=by rw[zc nA];rfl
  have b9:W1.cell? ⟨H+1,9,none⟩=some (.slice p' N cap'):=by rw[zc nB];rfl
  clear nA nB;go_wp2_with fail
  refine(HV.out _ (HUp.out _ (Below.refl _ _))).mono ?_;rintro e w2 ⟨rfl,hb2⟩;clear a0 b0 a1 b1 a2 b2 a3 b3 a4 b4 a5 b5 a6 b6 a7 b7 a8 b8 a9 b9;obtain⟨nA,nB⟩:=HBl.out _ hb2;have a8:w2.cell? ⟨H,8,none⟩=some (.slice np M nc):=by rw[zc nA];rfl
  have b8:w2.cell? ⟨H+1,8,none⟩=some (.slice np' M nc'):=by rw[zc nB];rfl
  have a9:w2.cell? ⟨H,9,none⟩=some (.slice p N cap):=by rw[zc nA];rfl
  have b9:w2.cell? ⟨H+1,9,none⟩=some (.slice p' N cap'):=by rw[zc nB];rfl
  clear nA nB;go_wp2_with fail
  refine(HES.out _ (HUp.out _ hb2)).mono ?_;rintro e w3 ⟨rfl,hb3⟩;have hb4:=below_tr' hb2 hb3;clear a8 b8 a9 b9;obtain⟨nA,nB⟩:=HBl.out _ hb4;have a8:w3.cell? ⟨H,8,none⟩=some (.slice np M nc):=by rw[zc nA];rfl
  have b8:w3.cell? ⟨H+1,8,none⟩=some (.slice np' M nc'):=by rw[zc nB];rfl
  have a9:w3.cell? ⟨H,9,none⟩=some (.slice p N cap):=by rw[zc nA];rfl
  have b9:w3.cell? ⟨H+1,9,none⟩=some (.slice p' N cap'):=by rw[zc nB];rfl
  clear nA nB;go_wp2_with fail
  refine(HEF.out _ (HUp.out _ hb4)).mono ?_;rintro e w5 ⟨rfl,hb5⟩;go_wp2_with fail
  go_ret;exact⟨ret_val rfl,by rw[HH.out];exact HUp.out _ (below_tr' hb4 hb5)⟩
end Go.Proofs.YtaaaaggmhjhkkaaGreatDoor
