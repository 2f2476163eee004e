/-
  Ha, Hb in one text.
-/
import Derived.Test.YtaaaaggmhjhkkaaGreatDoorS42
import Derived.Test.YtaaaaggmhjhkkaaGreatDoorCl
set_option maxRecDepth 100000
set_option maxHeartbeats 2000000
namespace Go.Proofs.YtaaaaggmhjhkkaaGreatDoor
section
open Go.RowKit
theorem rright8_c18 (d:Nat) (IH:∀ (x:ET) (cs:Array Value) (far0:Nat) (w:World),ExAt' w d x cs→far0≤100→Calls Tryz.prog 25 #[.agg cs,.int .i64 (far0:Int)] w (Gives (.bool (rightE x far0)) w))
  (x:ET) (cs:Array Value) (far:Nat) (w:World) (h:ExAt' w (d+1) x cs) (hfar:far+1≤100) (k:x.kind=18) :
  Calls Tryz.prog 25 #[.agg cs,.int .i64 ((far+1:Nat):Int)] w (Gives (.bool (rightE x (far+1))) w):=by
  have hw:wantsE x.kind=1:=by rw[k];rfl
  obtain⟨qn,qi,pn,pk,rfl,h2,h3,h4,h5,h7,h8⟩:=h;have ih:=zh IH;have hall:=h5.at;obtain⟨dv,h4⟩:=h4;obtain⟨np,nc,rfl⟩:=hall.lenOf;have hnsx:∀ i,i<x.names.length→∃ g off,np=some ⟨g,off,none⟩∧g<w.heap.size∧∀ j,j<x.names.length→w.cell? ⟨g,off+j,none⟩=some (.string ⟨(x.names.getD j []).toArray⟩):=by
   obtain⟨_,_,h3⟩:=hall;rcases h3 with ⟨h3,p,c,hp⟩|⟨g,off,cap,hp,hg,hc⟩
   ·intro i hi;rw[h3]at hi;simp at hi
   ·cases hp
    exact fun i hi=>⟨g,off,rfl,hg,hc⟩
  have HCV:=zh (fun f=>rightE_open x f);have hnl:=hall.1;clear hall;clear h2 h3 h5;have hB:Below w.heap.size w (w.alloc (.cells #[.int .i64 x.kind,.string ⟨x.str.toArray⟩,.int .i64 x.v.kind,.int .i64 x.v.num,.float .f64 x.v.flt,.string ⟨x.v.str.toArray⟩,qn,qi,.slice np x.names.length nc,pk] 29)):=(Below.refl _ _).alloc (Nat.le_refl _) _;have hnew:(w.alloc (.cells #[.int .i64 x.kind,.string ⟨x.str.toArray⟩,.int .i64 x.v.kind,.int .i64 x.v.num,.float .f64 x.v.flt,.string ⟨x.v.str.toArray⟩,qn,qi,.slice np x.names.length nc,pk] 29)).heap[w.heap.size]?=some (.cells #[.int .i64 x.kind,.string ⟨x.str.toArray⟩,.int .i64 x.v.kind,.int .i64 x.v.num,.float .f64 x.v.flt,.string ⟨x.v.str.toArray⟩,qn,qi,.slice np x.names.length nc,pk] 29 (0,0)):=heap_alloc_new w _;have hK:w.heap.size+1=(w.alloc (.cells #[.int .i64 x.kind,.string ⟨x.str.toArray⟩,.int .i64 x.v.kind,.int .i64 x.v.num,.float .f64 x.v.flt,.string ⟨x.v.str.toArray⟩,qn,qi,.slice np x.names.length nc,pk] 29)).heap.size:=by simp
  obtain⟨its,hits⟩:∃ its,its=x.kids:=⟨_,rfl⟩;rw[←hits]at h7 h8 HCV;have h8':∃ p cap,pk=.slice p its.length cap∧∀ i,i<its.length→∃ g off,p=some ⟨g,off,none⟩∧g<w.heap.size∧∃ ds,ExAt' w d (its.getD i noET) ds∧∀ j,j<10→w.cell? ⟨g,off+i*10+j,none⟩=ds[j]?:=by
   rcases h8 with ⟨h8,p,c,hp⟩|⟨g,off,cap,hp,hg,hc⟩
   ·subst h8;exact⟨p,c,hp,fun i hi=>absurd hi (by simp)⟩
   ·exact⟨_,cap,hp,fun i hi=>⟨g,off,rfl,hg.2,hc i hi⟩⟩
  obtain⟨p,cap,rfl,h9⟩:=h8';have H9:=zh h9;clear h8 h9 hits;generalize hN:its.length=N at *;have HN:=zh hN;clear hN;have HConst:=zh (fun w' (hb:Below w.heap.size w w')=>rconst8_any (dv+1) x.v _ w' ((h4.at).kept hb));have HNone:=zh (fun w' (hb:Below w.heap.size w w')=>rnone8_any (dv+1) x.v _ w' ((h4.at).kept hb));have HW:=zh (fun w=>rwants_any x.kind w);clear h4;generalize hns:x.names=ns at *;generalize hM:ns.length=M at *;have HM:=zh hM;have HBl:=zh (blk9 hnew);have HUp:=zh (up9 hB);have HNS:=zh (ns9 hB hnsx);have HNo0:=fun i hi hk=>rowE_no (l:=ns) (i:=i) hi hk
  have HYes0:=fun h=>(rowE_iff ns).2 h
  rw[hM]at HNo0 HYes0;clear hnsx hnew hM hns;generalize hgh:w.heap.size=H at *;have HH:=zh hgh;clear hgh;have hr:=HCV.out far;clear HCV;generalize rightE x (far+1)=R at *;have t0:decide (((far+1:Nat):Int)<1)=false:=by simp;omega
  have HF:=zh (show IntKind.i64.wrap (((far+1:Nat):Int) - 1)=(far:Int) by rw[IntKind.wrap_i64];omega);have e1:(x.kind==1)=false:=by rw[k];rfl
  have e1':(x.kind != 1)=true:=by rw[k];rfl
  have e2:(x.kind==2)=false:=by rw[k];rfl
  have e2':(x.kind != 2)=true:=by rw[k];rfl
  have e17:(x.kind==17)=false:=by rw[k];rfl
  have e17':(x.kind != 17)=true:=by rw[k];rfl
  have e18:(x.kind==18)=true:=by rw[k];rfl
  have e18':(x.kind != 18)=false:=by rw[k];rfl
  have HsE:=zh (show sokB x.kind x.str=fieldB x.str from by unfold sokB;rw[if_neg (by rw[k];decide),if_pos k]);have HnE:=zh (show nokB x.kind ns N=ns.isEmpty from by unfold nokB;rw[if_neg (by rw[k];decide)]);have HaE:=zh (show(if x.kind=1 then constB x.v else noneV x.v)=noneV x.v from if_neg (by rw[k];decide))
  rw[named_eq,Bool.and_assoc,HsE.out,HnE.out,HaE.out,hw]at hr;rw[hw]at HW;clear hw HsE HnE HaE k;have HF8:=zh (fun w=>rfield8_any x.str w);have HW8:=zh (fun w=>rword_any x.str w);have HN8:=zh (fun w=>(show Calls Tryz.prog 58 #[.string ⟨x.str.toArray⟩] w (fun e w'=>e=.returned (.bool (nmB x.str))∧w=w') from rname4_any ⟨x.str.toArray⟩ w));have hse:=zh (show x.str.isEmpty=(⟨x.str.toArray⟩:ByteArray).toList.isEmpty from by rw[ByteArray.toList_eq]);have tk:((1:Int) == -2)=false:=by decide
  have tg:decide ((0:Int)≤1)=true:=by decide
  by_cases kn:(N:Int)=1
  ·have tm:((N:Int) != 1)=false:=by rw[kn];simp
   rw[show(decide (¬ (1:Int) = -2)&&(decide ((1:Int) = -1∨(N:Int)=1)&&(fieldB x.str&&(ns.isEmpty&&(noneV x.v&&rightEL its far)))))=(fieldB x.str&&(ns.isEmpty&&(noneV x.v&&rightEL its far))) from by simp[kn]]at hr;clear kn;cases hA:noneV x.v
   ·have HR:=zh (show R=false from hr.trans (by rw[hA];simp));have hc:=HNone.out _ (HUp.out _ (Below.refl _ _));rw[hA]at hc;have HC:=zh hc;clear hr hc hA;go_in;go_upto_region 1 with (fail)
    rw[HH.out];generalize w.alloc (.cells #[.int .i64 x.kind,.string ⟨x.str.toArray⟩,.int .i64 x.v.kind,.int .i64 x.v.num,.float .f64 x.v.flt,.string ⟨x.v.str.toArray⟩,qn,qi,.slice np M nc,.slice p N cap] 29)=W1 at *;have nA:=(HBl.out _ (Below.refl _ _));obtain⟨a0,a1,a2,a3,a4,a5,a6,a7,a8,a9⟩:=cells10 nA;clear nA;go_wp2_with fail
    refine(HW.out _).mono ?_;rintro e w2 ⟨rfl,rfl⟩;go_wp2_with fail
    refine(HC.out).mono ?_;rintro e w3 ⟨rfl,hb3⟩;clear a0 a1 a2 a3 a4 a5 a6 a7 a8 a9;have nA:=(HBl.out _ hb3);obtain⟨a0,a1,a2,a3,a4,a5,a6,a7,a8,a9⟩:=cells10 nA;clear nA;go_wp2_with fail
    go_ret;exact⟨ret_val (by rw[HR.out]<;>rfl),by rw[HH.out];exact hB.trans (hb3.mono (by have:=hB.size;rw[HH.out]at this;exact this))⟩
   ·have hc:=HNone.out _ (HUp.out _ (Below.refl _ _));rw[hA]at hc;have HC:=zh hc;rw[hA,Bool.true_and]at hr;clear hc hA HConst HNone;cases hn:fieldB x.str
    ·have HR:=zh (show R=false from hr.trans (by rw[hn];simp));rw[hn]at HF8;clear hr hn;go_in;go_upto_region 1 with (fail)
     rw[HH.out];generalize w.alloc (.cells #[.int .i64 x.kind,.string ⟨x.str.toArray⟩,.int .i64 x.v.kind,.int .i64 x.v.num,.float .f64 x.v.flt,.string ⟨x.v.str.toArray⟩,qn,qi,.slice np M nc,.slice p N cap] 29)=W1 at *;have nA:=(HBl.out _ (Below.refl _ _));obtain⟨a0,a1,a2,a3,a4,a5,a6,a7,a8,a9⟩:=cells10 nA;clear nA;go_wp2_with fail
     refine(HW.out _).mono ?_;rintro e w2 ⟨rfl,rfl⟩;go_wp2_with fail
     refine(HC.out).mono ?_;rintro e w3 ⟨rfl,hb3⟩;clear a0 a1 a2 a3 a4 a5 a6 a7 a8 a9;have nA:=(HBl.out _ hb3);obtain⟨a0,a1,a2,a3,a4,a5,a6,a7,a8,a9⟩:=cells10 nA;clear nA;go_wp2_with fail
     refine(HF8.out _).mono ?_;rintro e w4 ⟨rfl,rfl⟩;go_wp2_with fail
     go_ret;exact⟨ret_val (by rw[HR.out]<;>rfl),by rw[HH.out];exact hB.trans (hb3.mono (by have:=hB.size;rw[HH.out]at this;exact this))⟩
    ·rw[hn]at HF8;rw[hn,Bool.true_and]at hr;clear hn;by_cases kc:M=0
     ·have e5:decide ((0:Int)<(M:Int))=false:=by simp;omega
      have e5':¬ 0<M:=by omega
      have HD:=zh (show R=rightEL its far from hr.trans (by rw[isE_len,HM.out,decide_eq_true kc];rfl));clear hr HNo0 HYes0 HNS kc;go_in;go_upto_region 1 with (fail)
      rw[HH.out];generalize w.alloc (.cells #[.int .i64 x.kind,.string ⟨x.str.toArray⟩,.int .i64 x.v.kind,.int .i64 x.v.num,.float .f64 x.v.flt,.string ⟨x.v.str.toArray⟩,qn,qi,.slice np M nc,.slice p N cap] 29)=W1 at *;have nA:=(HBl.out _ (Below.refl _ _));obtain⟨a0,a1,a2,a3,a4,a5,a6,a7,a8,a9⟩:=cells10 nA;clear nA;go_wp2_with fail
      refine(HW.out _).mono ?_;rintro e w2 ⟨rfl,rfl⟩;go_wp2_with fail
      refine(HC.out).mono ?_;rintro e w3 ⟨rfl,hb3⟩;clear a0 a1 a2 a3 a4 a5 a6 a7 a8 a9;have nA:=(HBl.out _ hb3);obtain⟨a0,a1,a2,a3,a4,a5,a6,a7,a8,a9⟩:=cells10 nA;clear nA;go_wp2_with fail
      refine(HF8.out _).mono ?_;rintro e w4 ⟨rfl,rfl⟩;go_wp2_with fail
      have hB0:=hb3;clear hb3;clear a0 a1 a2 a3 a4 a5 a6 a7 a8 a9;go_loopw [6] (fun iv wr=>iv=.int .i64 0∧Below W1.heap.size W1 wr) (fun _ _=>0)
      case atStart=>exact⟨rfl,hB0⟩
      case round =>
       clear hB0;obtain⟨rfl,hB2⟩:=hrel;have a8:wr.cell? ⟨H,8,none⟩=some (.slice np M nc):=by rw[zc (HBl.out _ hB2)];rfl
       go_wp2_with fail
       have hB0:=hB2;go_loopw [7] (fun iv wr=>∃ i:Nat,i≤N∧iv=.int .i64 i∧Below W1.heap.size W1 wr∧Hid (R=rightEL (its.drop i) far)) (fun iv _=>N - (intOf iv).toNat)
       case atStart=>exact⟨0,by omega,rfl,hB0,by show _=_;rw[List.drop_zero];exact HD.out⟩
       case round =>
        clear hB0 hB2 a8 HD;obtain⟨i,hi,rfl,hB2,hR⟩:=hrel;have a9:wr.cell? ⟨H,9,none⟩=some (.slice p N cap):=by rw[zc (HBl.out _ hB2)];rfl
        by_cases hlt:i<N
        ·have t0:decide ((i:Int)<(N:Int))=true:=by simp;omega
         obtain⟨g,off,rfl,hg,ds,hv,hcl⟩:=H9.out i hlt;obtain⟨qn2,qi2,pn2,pk2,rfl⟩:=hv.form;have hBw:=HUp.out _ hB2;have x0:wr.cell? ⟨g,off+i*10,none⟩=some (.int .i64 (its.getD i noET).kind):=(hBw.cell (p:=⟨g,off+i*10+0,none⟩) hg).trans (hcl 0 (by decide));have x1:wr.cell? ⟨g,off+i*10+1,none⟩=some (.string ⟨(its.getD i noET).str.toArray⟩):=(hBw.cell (p:=⟨g,off+i*10+1,none⟩) hg).trans (hcl 1 (by decide));have x2:wr.cell? ⟨g,off+i*10+2,none⟩=some (.int .i64 (its.getD i noET).v.kind):=(hBw.cell (p:=⟨g,off+i*10+2,none⟩) hg).trans (hcl 2 (by decide));have x3:wr.cell? ⟨g,off+i*10+3,none⟩=some (.int .i64 (its.getD i noET).v.num):=(hBw.cell (p:=⟨g,off+i*10+3,none⟩) hg).trans (hcl 3 (by decide));have x4:wr.cell? ⟨g,off+i*10+4,none⟩=some (.float .f64 (its.getD i noET).v.flt):=(hBw.cell (p:=⟨g,off+i*10+4,none⟩) hg).trans (hcl 4 (by decide));have x5:wr.cell? ⟨g,off+i*10+5,none⟩=some (.string ⟨(its.getD i noET).v.str.toArray⟩):=(hBw.cell (p:=⟨g,off+i*10+5,none⟩) hg).trans (hcl 5 (by decide));have x6:wr.cell? ⟨g,off+i*10+6,none⟩=some (qn2):=(hBw.cell (p:=⟨g,off+i*10+6,none⟩) hg).trans (hcl 6 (by decide));have x7:wr.cell? ⟨g,off+i*10+7,none⟩=some (qi2):=(hBw.cell (p:=⟨g,off+i*10+7,none⟩) hg).trans (hcl 7 (by decide));have x8:wr.cell? ⟨g,off+i*10+8,none⟩=some (pn2):=(hBw.cell (p:=⟨g,off+i*10+8,none⟩) hg).trans (hcl 8 (by decide));have x9:wr.cell? ⟨g,off+i*10+9,none⟩=some (pk2):=(hBw.cell (p:=⟨g,off+i*10+9,none⟩) hg).trans (hcl 9 (by decide));have hv2:=hv.keptA (w':=wr) (by rw[HH.out];exact hBw);have hC:=ih.out _ _ far wr hv2 (by omega);have hdn:=rightEL_drop (l:=its) (i:=i) (f:=far) (by rw[HN.out];exact hlt);generalize its.getD i noET=k at *;have b1:(0:Int)≤(i:Int):=by omega
         have b2:(i:Int)<(N:Int):=by omega
         clear hcl hv hv2;cases hk:rightE k far
         ·rw[hk]at hC hdn;have HC:=zh hC;have HD:=zh hdn;clear hC hdn hk;go_wp2_with fail
          refine(HC.out).mono ?_;rintro e w5 ⟨rfl,hb5⟩;go_wp2_with fail
          go_ret;exact⟨ret_val (by rw[hR.out,HD.out]<;>rfl),by rw[HH.out];exact hB.trans ((below_tr' hB2 hb5).mono (by have:=hB.size;rw[HH.out]at this;exact this))⟩
         ·rw[hk]at hC hdn;have HC:=zh hC;have HD:=zh hdn;clear hC hdn hk;go_wp2_with fail
          refine(HC.out).mono ?_;rintro e w5 ⟨rfl,hb5⟩;go_wp2_with fail
          go_roundw
          case rel=>exact⟨i+1,by omega,by go_num,below_tr' hB2 hb5,by show _=_;rw[hR.out,HD.out,Bool.true_and]⟩
          case measure=>simp[intOf];omega
        ·have t0:decide ((i:Int)<(N:Int))=false:=by simp;omega
         have HF:=zh (rightEL_end (l:=its) (i:=i) (f:=far) (by rw[HN.out];omega));go_wp2_with fail
         go_ret;exact⟨ret_val (by rw[hR.out,HF.out]<;>rfl),by rw[HH.out];exact hB.trans (hB2.mono (by have:=hB.size;rw[HH.out]at this;exact this))⟩
     ·have h0:0<M:=Nat.pos_of_ne_zero kc;have e5:decide ((0:Int)<(M:Int))=true:=by simp;omega
      have HR:=zh (show R=false from hr.trans (by rw[isE_len,HM.out,decide_eq_false kc];rfl));clear hr HNo0 HYes0;go_in;go_upto_region 1 with (fail)
      rw[HH.out];generalize w.alloc (.cells #[.int .i64 x.kind,.string ⟨x.str.toArray⟩,.int .i64 x.v.kind,.int .i64 x.v.num,.float .f64 x.v.flt,.string ⟨x.v.str.toArray⟩,qn,qi,.slice np M nc,.slice p N cap] 29)=W1 at *;have nA:=(HBl.out _ (Below.refl _ _));obtain⟨a0,a1,a2,a3,a4,a5,a6,a7,a8,a9⟩:=cells10 nA;clear nA;go_wp2_with fail
      refine(HW.out _).mono ?_;rintro e w2 ⟨rfl,rfl⟩;go_wp2_with fail
      refine(HC.out).mono ?_;rintro e w3 ⟨rfl,hb3⟩;clear a0 a1 a2 a3 a4 a5 a6 a7 a8 a9;have nA:=(HBl.out _ hb3);obtain⟨a0,a1,a2,a3,a4,a5,a6,a7,a8,a9⟩:=cells10 nA;clear nA;go_wp2_with fail
      refine(HF8.out _).mono ?_;rintro e w4 ⟨rfl,rfl⟩;go_wp2_with fail
      go_ret;exact⟨ret_val (by rw[HR.out]<;>rfl),by rw[HH.out];exact hB.trans (hb3.mono (by have:=hB.size;rw[HH.out]at this;exact this))⟩
  ·have tm:((N:Int) != 1)=true:=bne_iff_ne.2 kn;have HR:=zh (show R=false from hr.trans (by rw[decide_eq_false (show ¬ ((1:Int) = -1∨(N:Int)=1) from by omega)];simp));clear kn hr;go_in;go_upto_region 1 with (fail)
   rw[HH.out];generalize w.alloc (.cells #[.int .i64 x.kind,.string ⟨x.str.toArray⟩,.int .i64 x.v.kind,.int .i64 x.v.num,.float .f64 x.v.flt,.string ⟨x.v.str.toArray⟩,qn,qi,.slice np M nc,.slice p N cap] 29)=W1 at *;have nA:=(HBl.out _ (Below.refl _ _));obtain⟨a0,a1,a2,a3,a4,a5,a6,a7,a8,a9⟩:=cells10 nA;clear nA;go_wp2_with fail
   refine(HW.out _).mono ?_;rintro e w2 ⟨rfl,rfl⟩;go_wp2_with fail
   go_ret;exact⟨ret_val (by rw[HR.out]<;>rfl),by rw[HH.out];exact hB⟩
theorem rright8_c16 (d:Nat) (IH:∀ (x:ET) (cs:Array Value) (far0:Nat) (w:World),ExAt' w d x cs→far0≤100→Calls Tryz.prog 25 #[.agg cs,.int .i64 (far0:Int)] w (Gives (.bool (rightE x far0)) w))
  (x:ET) (cs:Array Value) (far:Nat) (w:World) (h:ExAt' w (d+1) x cs) (hfar:far+1≤100) (k:x.kind=16) :
  Calls Tryz.prog 25 #[.agg cs,.int .i64 ((far+1:Nat):Int)] w (Gives (.bool (rightE x (far+1))) w):=by
  have hw:wantsE x.kind = -1:=by rw[k];rfl
  obtain⟨qn,qi,pn,pk,rfl,h2,h3,h4,h5,h7,h8⟩:=h;have ih:=zh IH;have hall:=h5.at;obtain⟨dv,h4⟩:=h4;obtain⟨np,nc,rfl⟩:=hall.lenOf;have hnsx:∀ i,i<x.names.length→∃ g off,np=some ⟨g,off,none⟩∧g<w.heap.size∧∀ j,j<x.names.length→w.cell? ⟨g,off+j,none⟩=some (.string ⟨(x.names.getD j []).toArray⟩):=by
   obtain⟨_,_,h3⟩:=hall;rcases h3 with ⟨h3,p,c,hp⟩|⟨g,off,cap,hp,hg,hc⟩
   ·intro i hi;rw[h3]at hi;simp at hi
   ·cases hp
    exact fun i hi=>⟨g,off,rfl,hg,hc⟩
  have HCV:=zh (fun f=>rightE_open x f);have hnl:=hall.1;clear hall;clear h2 h3 h5;have hB:Below w.heap.size w (w.alloc (.cells #[.int .i64 x.kind,.string ⟨x.str.toArray⟩,.int .i64 x.v.kind,.int .i64 x.v.num,.float .f64 x.v.flt,.string ⟨x.v.str.toArray⟩,qn,qi,.slice np x.names.length nc,pk] 29)):=(Below.refl _ _).alloc (Nat.le_refl _) _;have hnew:(w.alloc (.cells #[.int .i64 x.kind,.string ⟨x.str.toArray⟩,.int .i64 x.v.kind,.int .i64 x.v.num,.float .f64 x.v.flt,.string ⟨x.v.str.toArray⟩,qn,qi,.slice np x.names.length nc,pk] 29)).heap[w.heap.size]?=some (.cells #[.int .i64 x.kind,.string ⟨x.str.toArray⟩,.int .i64 x.v.kind,.int .i64 x.v.num,.float .f64 x.v.flt,.string ⟨x.v.str.toArray⟩,qn,qi,.slice np x.names.length nc,pk] 29 (0,0)):=heap_alloc_new w _;have hK:w.heap.size+1=(w.alloc (.cells #[.int .i64 x.kind,.string ⟨x.str.toArray⟩,.int .i64 x.v.kind,.int .i64 x.v.num,.float .f64 x.v.flt,.string ⟨x.v.str.toArray⟩,qn,qi,.slice np x.names.length nc,pk] 29)).heap.size:=by simp
  obtain⟨its,hits⟩:∃ its,its=x.kids:=⟨_,rfl⟩;rw[←hits]at h7 h8 HCV;have h8':∃ p cap,pk=.slice p its.length cap∧∀ i,i<its.length→∃ g off,p=some ⟨g,off,none⟩∧g<w.heap.size∧∃ ds,ExAt' w d (its.getD i noET) ds∧∀ j,j<10→w.cell? ⟨g,off+i*10+j,none⟩=ds[j]?:=by
   rcases h8 with ⟨h8,p,c,hp⟩|⟨g,off,cap,hp,hg,hc⟩
   ·subst h8;exact⟨p,c,hp,fun i hi=>absurd hi (by simp)⟩
   ·exact⟨_,cap,hp,fun i hi=>⟨g,off,rfl,hg.2,hc i hi⟩⟩
  obtain⟨p,cap,rfl,h9⟩:=h8';have H9:=zh h9;clear h8 h9 hits;generalize hN:its.length=N at *;have HN:=zh hN;clear hN;have HConst:=zh (fun w' (hb:Below w.heap.size w w')=>rconst8_any (dv+1) x.v _ w' ((h4.at).kept hb));have HNone:=zh (fun w' (hb:Below w.heap.size w w')=>rnone8_any (dv+1) x.v _ w' ((h4.at).kept hb));have HW:=zh (fun w=>rwants_any x.kind w);clear h4;generalize hns:x.names=ns at *;generalize hM:ns.length=M at *;have HM:=zh hM;have HBl:=zh (blk9 hnew);have HUp:=zh (up9 hB);have HNS:=zh (ns9 hB hnsx);have HNo0:=fun i hi hk=>rowE_no (l:=ns) (i:=i) hi hk
  have HYes0:=fun h=>(rowE_iff ns).2 h
  rw[hM]at HNo0 HYes0;clear hnsx hnew hM hns;generalize hgh:w.heap.size=H at *;have HH:=zh hgh;clear hgh;have hr:=HCV.out far;clear HCV;generalize rightE x (far+1)=R at *;have t0:decide (((far+1:Nat):Int)<1)=false:=by simp;omega
  have HF:=zh (show IntKind.i64.wrap (((far+1:Nat):Int) - 1)=(far:Int) by rw[IntKind.wrap_i64];omega);have e1:(x.kind==1)=false:=by rw[k];rfl
  have e1':(x.kind != 1)=true:=by rw[k];rfl
  have e2:(x.kind==2)=false:=by rw[k];rfl
  have e2':(x.kind != 2)=true:=by rw[k];rfl
  have e17:(x.kind==17)=false:=by rw[k];rfl
  have e17':(x.kind != 17)=true:=by rw[k];rfl
  have e18:(x.kind==18)=false:=by rw[k];rfl
  have e18':(x.kind != 18)=true:=by rw[k];rfl
  have HsE:=zh (show sokB x.kind x.str=x.str.isEmpty from by unfold sokB;rw[if_neg (by rw[k];decide),if_neg (by rw[k];decide)]);have HnE:=zh (show nokB x.kind ns N=ns.isEmpty from by unfold nokB;rw[if_neg (by rw[k];decide)]);have HaE:=zh (show(if x.kind=1 then constB x.v else noneV x.v)=noneV x.v from if_neg (by rw[k];decide))
  rw[named_eq,Bool.and_assoc,HsE.out,HnE.out,HaE.out,hw]at hr;rw[hw]at HW;clear hw HsE HnE HaE k;have HF8:=zh (fun w=>rfield8_any x.str w);have HW8:=zh (fun w=>rword_any x.str w);have HN8:=zh (fun w=>(show Calls Tryz.prog 58 #[.string ⟨x.str.toArray⟩] w (fun e w'=>e=.returned (.bool (nmB x.str))∧w=w') from rname4_any ⟨x.str.toArray⟩ w));have hse:=zh (show x.str.isEmpty=(⟨x.str.toArray⟩:ByteArray).toList.isEmpty from by rw[ByteArray.toList_eq]);have tk:((-1:Int) == -2)=false:=by decide
  have tg:decide ((0:Int) ≤ -1)=false:=by decide
  rw[show(decide (¬ (-1:Int) = -2)&&(decide ((-1:Int) = -1∨(N:Int) = -1)&&(x.str.isEmpty&&(ns.isEmpty&&(noneV x.v&&rightEL its far)))))=(x.str.isEmpty&&(ns.isEmpty&&(noneV x.v&&rightEL its far))) from by simp]at hr;cases hA:noneV x.v
  ·have HR:=zh (show R=false from hr.trans (by rw[hA];simp));have hc:=HNone.out _ (HUp.out _ (Below.refl _ _));rw[hA]at hc;have HC:=zh hc;clear hr hc hA;go_in;go_upto_region 1 with (fail)
   rw[HH.out];generalize w.alloc (.cells #[.int .i64 x.kind,.string ⟨x.str.toArray⟩,.int .i64 x.v.kind,.int .i64 x.v.num,.float .f64 x.v.flt,.string ⟨x.v.str.toArray⟩,qn,qi,.slice np M nc,.slice p N cap] 29)=W1 at *;have nA:=(HBl.out _ (Below.refl _ _));obtain⟨a0,a1,a2,a3,a4,a5,a6,a7,a8,a9⟩:=cells10 nA;clear nA;go_wp2_with fail
   refine(HW.out _).mono ?_;rintro e w2 ⟨rfl,rfl⟩;go_wp2_with fail
   refine(HC.out).mono ?_;rintro e w3 ⟨rfl,hb3⟩;clear a0 a1 a2 a3 a4 a5 a6 a7 a8 a9;have nA:=(HBl.out _ hb3);obtain⟨a0,a1,a2,a3,a4,a5,a6,a7,a8,a9⟩:=cells10 nA;clear nA;go_wp2_with fail
   go_ret;exact⟨ret_val (by rw[HR.out]<;>rfl),by rw[HH.out];exact hB.trans (hb3.mono (by have:=hB.size;rw[HH.out]at this;exact this))⟩
  ·have hc:=HNone.out _ (HUp.out _ (Below.refl _ _));rw[hA]at hc;have HC:=zh hc;rw[hA,Bool.true_and]at hr;clear hc hA HConst HNone;rw[hse.out]at hr;clear hse HF8 HW8 HN8;generalize (⟨x.str.toArray⟩:ByteArray)=S at *;cases t3:S.toList.isEmpty
   ·have HR:=zh (show R=false from hr.trans (by rw[t3];simp));clear hr;go_in;go_upto_region 1 with (fail)
    rw[HH.out];generalize w.alloc (.cells #[.int .i64 x.kind,.string S,.int .i64 x.v.kind,.int .i64 x.v.num,.float .f64 x.v.flt,.string ⟨x.v.str.toArray⟩,qn,qi,.slice np M nc,.slice p N cap] 29)=W1 at *;have nA:=(HBl.out _ (Below.refl _ _));obtain⟨a0,a1,a2,a3,a4,a5,a6,a7,a8,a9⟩:=cells10 nA;clear nA;go_wp2_with fail
    refine(HW.out _).mono ?_;rintro e w2 ⟨rfl,rfl⟩;go_wp2_with fail
    refine(HC.out).mono ?_;rintro e w3 ⟨rfl,hb3⟩;clear a0 a1 a2 a3 a4 a5 a6 a7 a8 a9;have nA:=(HBl.out _ hb3);obtain⟨a0,a1,a2,a3,a4,a5,a6,a7,a8,a9⟩:=cells10 nA;clear nA;go_wp2_with fail
    go_ret;exact⟨ret_val (by rw[HR.out]<;>rfl),by rw[HH.out];exact hB.trans (hb3.mono (by have:=hB.size;rw[HH.out]at this;exact this))⟩
   ·rw[t3,Bool.true_and]at hr;by_cases kc:M=0
    ·have e5:decide ((0:Int)<(M:Int))=false:=by simp;omega
     have e5':¬ 0<M:=by omega
     have HD:=zh (show R=rightEL its far from hr.trans (by rw[isE_len,HM.out,decide_eq_true kc];rfl));clear hr HNo0 HYes0 HNS kc;go_in;go_upto_region 1 with (fail)
     rw[HH.out];generalize w.alloc (.cells #[.int .i64 x.kind,.string S,.int .i64 x.v.kind,.int .i64 x.v.num,.float .f64 x.v.flt,.string ⟨x.v.str.toArray⟩,qn,qi,.slice np M nc,.slice p N cap] 29)=W1 at *;have nA:=(HBl.out _ (Below.refl _ _));obtain⟨a0,a1,a2,a3,a4,a5,a6,a7,a8,a9⟩:=cells10 nA;clear nA;go_wp2_with fail
     refine(HW.out _).mono ?_;rintro e w2 ⟨rfl,rfl⟩;go_wp2_with fail
     refine(HC.out).mono ?_;rintro e w3 ⟨rfl,hb3⟩;clear a0 a1 a2 a3 a4 a5 a6 a7 a8 a9;have nA:=(HBl.out _ hb3);obtain⟨a0,a1,a2,a3,a4,a5,a6,a7,a8,a9⟩:=cells10 nA;clear nA;go_wp2_with fail
     have hB0:=hb3;clear hb3;clear a0 a1 a2 a3 a4 a5 a6 a7 a8 a9;go_loopw [6] (fun iv wr=>iv=.int .i64 0∧Below W1.heap.size W1 wr) (fun _ _=>0)
     case atStart=>exact⟨rfl,hB0⟩
     case round =>
      clear hB0;obtain⟨rfl,hB2⟩:=hrel;have a8:wr.cell? ⟨H,8,none⟩=some (.slice np M nc):=by rw[zc (HBl.out _ hB2)];rfl
      go_wp2_with fail
      have hB0:=hB2;go_loopw [7] (fun iv wr=>∃ i:Nat,i≤N∧iv=.int .i64 i∧Below W1.heap.size W1 wr∧Hid (R=rightEL (its.drop i) far)) (fun iv _=>N - (intOf iv).toNat)
      case atStart=>exact⟨0,by omega,rfl,hB0,by show _=_;rw[List.drop_zero];exact HD.out⟩
      case round =>
       clear hB0 hB2 a8 HD;obtain⟨i,hi,rfl,hB2,hR⟩:=hrel;have a9:wr.cell? ⟨H,9,none⟩=some (.slice p N cap):=by rw[zc (HBl.out _ hB2)];rfl
       by_cases hlt:i<N
       ·have t0:decide ((i:Int)<(N:Int))=true:=by simp;omega
        obtain⟨g,off,rfl,hg,ds,hv,hcl⟩:=H9.out i hlt;obtain⟨qn2,qi2,pn2,pk2,rfl⟩:=hv.form;have hBw:=HUp.out _ hB2;have x0:wr.cell? ⟨g,off+i*10,none⟩=some (.int .i64 (its.getD i noET).kind):=(hBw.cell (p:=⟨g,off+i*10+0,none⟩) hg).trans (hcl 0 (by decide));have x1:wr.cell? ⟨g,off+i*10+1,none⟩=some (.string ⟨(its.getD i noET).str.toArray⟩):=(hBw.cell (p:=⟨g,off+i*10+1,none⟩) hg).trans (hcl 1 (by decide));have x2:wr.cell? ⟨g,off+i*10+2,none⟩=some (.int .i64 (its.getD i noET).v.kind):=(hBw.cell (p:=⟨g,off+i*10+2,none⟩) hg).trans (hcl 2 (by decide));have x3:wr.cell? ⟨g,off+i*10+3,none⟩=some (.int .i64 (its.getD i noET).v.num):=(hBw.cell (p:=⟨g,off+i*10+3,none⟩) hg).trans (hcl 3 (by decide));have x4:wr.cell? ⟨g,off+i*10+4,none⟩=some (.float .f64 (its.getD i noET).v.flt):=(hBw.cell (p:=⟨g,off+i*10+4,none⟩) hg).trans (hcl 4 (by decide));have x5:wr.cell? ⟨g,off+i*10+5,none⟩=some (.string ⟨(its.getD i noET).v.str.toArray⟩):=(hBw.cell (p:=⟨g,off+i*10+5,none⟩) hg).trans (hcl 5 (by decide));have x6:wr.cell? ⟨g,off+i*10+6,none⟩=some (qn2):=(hBw.cell (p:=⟨g,off+i*10+6,none⟩) hg).trans (hcl 6 (by decide));have x7:wr.cell? ⟨g,off+i*10+7,none⟩=some (qi2):=(hBw.cell (p:=⟨g,off+i*10+7,none⟩) hg).trans (hcl 7 (by decide));have x8:wr.cell? ⟨g,off+i*10+8,none⟩=some (pn2):=(hBw.cell (p:=⟨g,off+i*10+8,none⟩) hg).trans (hcl 8 (by decide));have x9:wr.cell? ⟨g,off+i*10+9,none⟩=some (pk2):=(hBw.cell (p:=⟨g,off+i*10+9,none⟩) hg).trans (hcl 9 (by decide));have hv2:=hv.keptA (w':=wr) (by rw[HH.out];exact hBw);have hC:=ih.out _ _ far wr hv2 (by omega);have hdn:=rightEL_drop (l:=its) (i:=i) (f:=far) (by rw[HN.out];exact hlt);generalize its.getD i noET=k at *;have b1:(0:Int)≤(i:Int):=by omega
        have b2:(i:Int)<(N:Int):=by omega
        clear hcl hv hv2;cases hk:rightE k far
        ·rw[hk]at hC hdn;have HC:=zh hC;have HD:=zh hdn;clear hC hdn hk;go_wp2_with fail
         refine(HC.out).mono ?_;rintro e w5 ⟨rfl,hb5⟩;go_wp2_with fail
         go_ret;exact⟨ret_val (by rw[hR.out,HD.out]<;>rfl),by rw[HH.out];exact hB.trans ((below_tr' hB2 hb5).mono (by have:=hB.size;rw[HH.out]at this;exact this))⟩
        ·rw[hk]at hC hdn;have HC:=zh hC;have HD:=zh hdn;clear hC hdn hk;go_wp2_with fail
         refine(HC.out).mono ?_;rintro e w5 ⟨rfl,hb5⟩;go_wp2_with fail
         go_roundw
         case rel=>exact⟨i+1,by omega,by go_num,below_tr' hB2 hb5,by show _=_;rw[hR.out,HD.out,Bool.true_and]⟩
         case measure=>simp[intOf];omega
       ·have t0:decide ((i:Int)<(N:Int))=false:=by simp;omega
        have HF:=zh (rightEL_end (l:=its) (i:=i) (f:=far) (by rw[HN.out];omega));go_wp2_with fail
        go_ret;exact⟨ret_val (by rw[hR.out,HF.out]<;>rfl),by rw[HH.out];exact hB.trans (hB2.mono (by have:=hB.size;rw[HH.out]at this;exact this))⟩
    ·have h0:0<M:=Nat.pos_of_ne_zero kc;have e5:decide ((0:Int)<(M:Int))=true:=by simp;omega
     have HR:=zh (show R=false from hr.trans (by rw[isE_len,HM.out,decide_eq_false kc];rfl));clear hr HNo0 HYes0;go_in;go_upto_region 1 with (fail)
     rw[HH.out];generalize w.alloc (.cells #[.int .i64 x.kind,.string S,.int .i64 x.v.kind,.int .i64 x.v.num,.float .f64 x.v.flt,.string ⟨x.v.str.toArray⟩,qn,qi,.slice np M nc,.slice p N cap] 29)=W1 at *;have nA:=(HBl.out _ (Below.refl _ _));obtain⟨a0,a1,a2,a3,a4,a5,a6,a7,a8,a9⟩:=cells10 nA;clear nA;go_wp2_with fail
     refine(HW.out _).mono ?_;rintro e w2 ⟨rfl,rfl⟩;go_wp2_with fail
     refine(HC.out).mono ?_;rintro e w3 ⟨rfl,hb3⟩;clear a0 a1 a2 a3 a4 a5 a6 a7 a8 a9;have nA:=(HBl.out _ hb3);obtain⟨a0,a1,a2,a3,a4,a5,a6,a7,a8,a9⟩:=cells10 nA;clear nA;go_wp2_with fail
     go_ret;exact⟨ret_val (by rw[HR.out]<;>rfl),by rw[HH.out];exact hB.trans (hb3.mono (by have:=hB.size;rw[HH.out]at this;exact this))⟩
end
section
open Go.RowKit
theorem rright8_c17 (d:Nat) (IH:∀ (x:ET) (cs:Array Value) (far0:Nat) (w:World),ExAt' w d x cs→far0≤100→Calls Tryz.prog 25 #[.agg cs,.int .i64 (far0:Int)] w (Gives (.bool (rightE x far0)) w))
  (x:ET) (cs:Array Value) (far:Nat) (w:World) (h:ExAt' w (d+1) x cs) (hfar:far+1≤100) (k:x.kind=17) :
  Calls Tryz.prog 25 #[.agg cs,.int .i64 ((far+1:Nat):Int)] w (Gives (.bool (rightE x (far+1))) w):=by
  have hw:wantsE x.kind = -1:=by rw[k];rfl
  obtain⟨qn,qi,pn,pk,rfl,h2,h3,h4,h5,h7,h8⟩:=h;have ih:=zh IH;have hall:=h5.at;obtain⟨dv,h4⟩:=h4;obtain⟨np,nc,rfl⟩:=hall.lenOf;have hnsx:∀ i,i<x.names.length→∃ g off,np=some ⟨g,off,none⟩∧g<w.heap.size∧∀ j,j<x.names.length→w.cell? ⟨g,off+j,none⟩=some (.string ⟨(x.names.getD j []).toArray⟩):=by
   obtain⟨_,_,h3⟩:=hall;rcases h3 with ⟨h3,p,c,hp⟩|⟨g,off,cap,hp,hg,hc⟩
   ·intro i hi;rw[h3]at hi;simp at hi
   ·cases hp
    exact fun i hi=>⟨g,off,rfl,hg,hc⟩
  have HCV:=zh (fun f=>rightE_open x f);have hnl:=hall.1;clear hall;clear h2 h3 h5;have hB:Below w.heap.size w (w.alloc (.cells #[.int .i64 x.kind,.string ⟨x.str.toArray⟩,.int .i64 x.v.kind,.int .i64 x.v.num,.float .f64 x.v.flt,.string ⟨x.v.str.toArray⟩,qn,qi,.slice np x.names.length nc,pk] 29)):=(Below.refl _ _).alloc (Nat.le_refl _) _;have hnew:(w.alloc (.cells #[.int .i64 x.kind,.string ⟨x.str.toArray⟩,.int .i64 x.v.kind,.int .i64 x.v.num,.float .f64 x.v.flt,.string ⟨x.v.str.toArray⟩,qn,qi,.slice np x.names.length nc,pk] 29)).heap[w.heap.size]?=some (.cells #[.int .i64 x.kind,.string ⟨x.str.toArray⟩,.int .i64 x.v.kind,.int .i64 x.v.num,.float .f64 x.v.flt,.string ⟨x.v.str.toArray⟩,qn,qi,.slice np x.names.length nc,pk] 29 (0,0)):=heap_alloc_new w _;have hK:w.heap.size+1=(w.alloc (.cells #[.int .i64 x.kind,.string ⟨x.str.toArray⟩,.int .i64 x.v.kind,.int .i64 x.v.num,.float .f64 x.v.flt,.string ⟨x.v.str.toArray⟩,qn,qi,.slice np x.names.length nc,pk] 29)).heap.size:=by simp
  obtain⟨its,hits⟩:∃ its,its=x.kids:=⟨_,rfl⟩;rw[←hits]at h7 h8 HCV;have h8':∃ p cap,pk=.slice p its.length cap∧∀ i,i<its.length→∃ g off,p=some ⟨g,off,none⟩∧g<w.heap.size∧∃ ds,ExAt' w d (its.getD i noET) ds∧∀ j,j<10→w.cell? ⟨g,off+i*10+j,none⟩=ds[j]?:=by
   rcases h8 with ⟨h8,p,c,hp⟩|⟨g,off,cap,hp,hg,hc⟩
   ·subst h8;exact⟨p,c,hp,fun i hi=>absurd hi (by simp)⟩
   ·exact⟨_,cap,hp,fun i hi=>⟨g,off,rfl,hg.2,hc i hi⟩⟩
  obtain⟨p,cap,rfl,h9⟩:=h8';have H9:=zh h9;clear h8 h9 hits;generalize hN:its.length=N at *;have HN:=zh hN;clear hN;have HConst:=zh (fun w' (hb:Below w.heap.size w w')=>rconst8_any (dv+1) x.v _ w' ((h4.at).kept hb));have HNone:=zh (fun w' (hb:Below w.heap.size w w')=>rnone8_any (dv+1) x.v _ w' ((h4.at).kept hb));have HW:=zh (fun w=>rwants_any x.kind w);clear h4;generalize hns:x.names=ns at *;generalize hM:ns.length=M at *;have HM:=zh hM;have HBl:=zh (blk9 hnew);have HUp:=zh (up9 hB);have HNS:=zh (ns9 hB hnsx);have HNo0:=fun i hi hk=>rowE_no (l:=ns) (i:=i) hi hk
  have HYes0:=fun h=>(rowE_iff ns).2 h
  rw[hM]at HNo0 HYes0;clear hnsx hnew hM hns;generalize hgh:w.heap.size=H at *;have HH:=zh hgh;clear hgh;have hr:=HCV.out far;clear HCV;generalize rightE x (far+1)=R at *;have t0:decide (((far+1:Nat):Int)<1)=false:=by simp;omega
  have HF:=zh (show IntKind.i64.wrap (((far+1:Nat):Int) - 1)=(far:Int) by rw[IntKind.wrap_i64];omega);have e1:(x.kind==1)=false:=by rw[k];rfl
  have e1':(x.kind != 1)=true:=by rw[k];rfl
  have e2:(x.kind==2)=false:=by rw[k];rfl
  have e2':(x.kind != 2)=true:=by rw[k];rfl
  have e17:(x.kind==17)=true:=by rw[k];rfl
  have e17':(x.kind != 17)=false:=by rw[k];rfl
  have e18:(x.kind==18)=false:=by rw[k];rfl
  have e18':(x.kind != 18)=true:=by rw[k];rfl
  have HsE:=zh (show sokB x.kind x.str=x.str.isEmpty from by unfold sokB;rw[if_neg (by rw[k];decide),if_neg (by rw[k];decide)]);have HnE:=zh (show nokB x.kind ns N=(rowE ns&&decide (ns.length=N)) from by unfold nokB;rw[if_pos k]);have HaE:=zh (show(if x.kind=1 then constB x.v else noneV x.v)=noneV x.v from if_neg (by rw[k];decide))
  rw[named_eq,Bool.and_assoc,HsE.out,HnE.out,HaE.out,hw]at hr;rw[hw]at HW;clear hw HsE HnE HaE k;have HF8:=zh (fun w=>rfield8_any x.str w);have HW8:=zh (fun w=>rword_any x.str w);have HN8:=zh (fun w=>(show Calls Tryz.prog 58 #[.string ⟨x.str.toArray⟩] w (fun e w'=>e=.returned (.bool (nmB x.str))∧w=w') from rname4_any ⟨x.str.toArray⟩ w));have hse:=zh (show x.str.isEmpty=(⟨x.str.toArray⟩:ByteArray).toList.isEmpty from by rw[ByteArray.toList_eq]);have tk:((-1:Int) == -2)=false:=by decide
  have tg:decide ((0:Int) ≤ -1)=false:=by decide
  rw[show(decide (¬ (-1:Int) = -2)&&(decide ((-1:Int) = -1∨(N:Int) = -1)&&(x.str.isEmpty&&((rowE ns&&decide (ns.length=N))&&(noneV x.v&&rightEL its far)))))=(x.str.isEmpty&&((rowE ns&&decide (ns.length=N))&&(noneV x.v&&rightEL its far))) from by simp]at hr;cases hA:noneV x.v
  ·have HR:=zh (show R=false from hr.trans (by rw[hA];simp));have hc:=HNone.out _ (HUp.out _ (Below.refl _ _));rw[hA]at hc;have HC:=zh hc;clear hr hc hA;go_in;go_upto_region 1 with (fail)
   rw[HH.out];generalize w.alloc (.cells #[.int .i64 x.kind,.string ⟨x.str.toArray⟩,.int .i64 x.v.kind,.int .i64 x.v.num,.float .f64 x.v.flt,.string ⟨x.v.str.toArray⟩,qn,qi,.slice np M nc,.slice p N cap] 29)=W1 at *;have nA:=(HBl.out _ (Below.refl _ _));obtain⟨a0,a1,a2,a3,a4,a5,a6,a7,a8,a9⟩:=cells10 nA;clear nA;go_wp2_with fail
   refine(HW.out _).mono ?_;rintro e w2 ⟨rfl,rfl⟩;go_wp2_with fail
   refine(HC.out).mono ?_;rintro e w3 ⟨rfl,hb3⟩;clear a0 a1 a2 a3 a4 a5 a6 a7 a8 a9;have nA:=(HBl.out _ hb3);obtain⟨a0,a1,a2,a3,a4,a5,a6,a7,a8,a9⟩:=cells10 nA;clear nA;go_wp2_with fail
   go_ret;exact⟨ret_val (by rw[HR.out]<;>rfl),by rw[HH.out];exact hB.trans (hb3.mono (by have:=hB.size;rw[HH.out]at this;exact this))⟩
  ·have hc:=HNone.out _ (HUp.out _ (Below.refl _ _));rw[hA]at hc;have HC:=zh hc;rw[hA,Bool.true_and]at hr;clear hc hA HConst HNone;rw[hse.out]at hr;clear hse HF8 HW8 HN8;generalize (⟨x.str.toArray⟩:ByteArray)=S at *;cases t3:S.toList.isEmpty
   ·have HR:=zh (show R=false from hr.trans (by rw[t3];simp));clear hr;go_in;go_upto_region 1 with (fail)
    rw[HH.out];generalize w.alloc (.cells #[.int .i64 x.kind,.string S,.int .i64 x.v.kind,.int .i64 x.v.num,.float .f64 x.v.flt,.string ⟨x.v.str.toArray⟩,qn,qi,.slice np M nc,.slice p N cap] 29)=W1 at *;have nA:=(HBl.out _ (Below.refl _ _));obtain⟨a0,a1,a2,a3,a4,a5,a6,a7,a8,a9⟩:=cells10 nA;clear nA;go_wp2_with fail
    refine(HW.out _).mono ?_;rintro e w2 ⟨rfl,rfl⟩;go_wp2_with fail
    refine(HC.out).mono ?_;rintro e w3 ⟨rfl,hb3⟩;clear a0 a1 a2 a3 a4 a5 a6 a7 a8 a9;have nA:=(HBl.out _ hb3);obtain⟨a0,a1,a2,a3,a4,a5,a6,a7,a8,a9⟩:=cells10 nA;clear nA;go_wp2_with fail
    go_ret;exact⟨ret_val (by rw[HR.out]<;>rfl),by rw[HH.out];exact hB.trans (hb3.mono (by have:=hB.size;rw[HH.out]at this;exact this))⟩
   ·rw[t3,Bool.true_and]at hr;by_cases kc:M=N
    ·have e5:((M:Int) != (N:Int))=false:=by rw[kc];simp
     have HGo:=zh (show(∀ j,j<M→okAtE ns j=true)→R=rightEL its far from fun hj=>by rw[hr,HYes0 hj,HM.out,decide_eq_true kc];rfl);have HNo:=zh (show ∀ i,i<M→okAtE ns i=false→R=false from fun i hi hk=>by rw[hr,HNo0 i hi hk];rfl);clear hr HNo0 HYes0 kc;go_in;go_upto_region 1 with (fail)
     rw[HH.out];generalize w.alloc (.cells #[.int .i64 x.kind,.string S,.int .i64 x.v.kind,.int .i64 x.v.num,.float .f64 x.v.flt,.string ⟨x.v.str.toArray⟩,qn,qi,.slice np M nc,.slice p N cap] 29)=W1 at *;have nA:=(HBl.out _ (Below.refl _ _));obtain⟨a0,a1,a2,a3,a4,a5,a6,a7,a8,a9⟩:=cells10 nA;clear nA;go_wp2_with fail
     refine(HW.out _).mono ?_;rintro e w2 ⟨rfl,rfl⟩;go_wp2_with fail
     refine(HC.out).mono ?_;rintro e w3 ⟨rfl,hb3⟩;clear a0 a1 a2 a3 a4 a5 a6 a7 a8 a9;have nA:=(HBl.out _ hb3);obtain⟨a0,a1,a2,a3,a4,a5,a6,a7,a8,a9⟩:=cells10 nA;clear nA;go_wp2_with fail
     have hB0:=hb3;clear hb3;clear a0 a1 a2 a3 a4 a5 a6 a7 a8 a9;go_loopw [6] (fun iv wr=>∃ i:Nat,i≤M∧iv=.int .i64 i∧Below W1.heap.size W1 wr∧Hid (∀ j,j<i→okAtE ns j=true)) (fun iv _=>M - (intOf iv).toNat)
     case atStart=>exact⟨0,by omega,rfl,hB0,fun j hj=>absurd hj (by omega)⟩
     case round =>
      clear hB0;obtain⟨i,hi,rfl,hB2,hall⟩:=hrel;have a8:wr.cell? ⟨H,8,none⟩=some (.slice np M nc):=by rw[zc (HBl.out _ hB2)];rfl
      by_cases hlt:i<M
      ·have t0:decide ((i:Int)<(M:Int))=true:=by simp;omega
       obtain⟨ga,off,rfl,hc⟩:=HNS.out i hlt _ hB2;have z1:=hc i hlt;have z2:=hc (i - 1) (by omega);have HNm:=zh (fun w=>rfield8_any (ns.getD i []) w);have HOk:=zh (okAtE.eq_def ns i);have b1:(0:Int)≤(i:Int):=by omega
       have b2:(i:Int)<(M:Int):=by omega
       clear hc;have HAll:=zh (fun(h:okAtE ns i=true) j (hj:j<i+1)=>(show okAtE ns j=true from by
        rcases Nat.lt_or_ge j i with g|g
        ·exact hall.out j g
        ·rw[show j=i by omega];exact h))
       have HNi:=zh (HNo.out i hlt);generalize hA:ns.getD i []=A at *;generalize hB':ns.getD (i - 1) []=B at *;clear hA hB';cases hb:fieldB A
       ·rw[hb]at HNm HOk;have HX:=zh (HNi.out (by rw[HOk.out];rfl));go_wp2_with fail
        go_quiet (refine Calls.quiet_of_same ((HNm.out _).mono fun _ _ h=>⟨h.1,h.2.symm⟩))
        go_wp2_with fail
        go_ret;exact⟨ret_val (by rw[HX.out]<;>rfl),by rw[HH.out];exact hB.trans ((below_drewN' hB2 nq).mono (by have:=hB.size;rw[HH.out]at this;exact this))⟩
       ·rw[hb]at HNm HOk;by_cases hi0:i=0
        ·have t1:decide ((0:Int)<(i:Int))=false:=by simp;omega
         have t1':¬ 0<i:=by omega
         have t1n:decide (0<i)=false:=by simp;omega
         have HY:=zh (HAll.out (by rw[HOk.out,decide_eq_true hi0];rfl));clear hi0;go_wp2_with fail
         go_quiet (refine Calls.quiet_of_same ((HNm.out _).mono fun _ _ h=>⟨h.1,h.2.symm⟩))
         go_wp2_with fail
         go_roundw
         case rel=>exact⟨i+1,by omega,by go_num,below_drewN' hB2 nq,HY.out⟩
         case measure=>simp[intOf];omega
        ·have t1:decide ((0:Int)<(i:Int))=true:=by simp;omega
         have t1p:0<i:=by omega
         have t1n:decide (0<i)=true:=by simp;omega
         have w1:IntKind.i64.wrap ((i:Int) - 1)=((i - 1:Nat):Int):=by rw[IntKind.wrap_i64];omega
         have w2:(0:Int)≤((i - 1:Nat):Int):=by omega
         have w3:((i - 1:Nat):Int)<(M:Int):=by omega
         have HI:=zh (decide_eq_false hi0);clear hi0;cases hl:Op.bytesLess B A
         ·have HX:=zh (HNi.out (by rw[HOk.out,HI.out,hl];rfl));go_wp2_with fail
          go_quiet (refine Calls.quiet_of_same ((HNm.out _).mono fun _ _ h=>⟨h.1,h.2.symm⟩))
          go_wp2_with fail
          go_ret;exact⟨ret_val (by rw[HX.out]<;>rfl),by rw[HH.out];exact hB.trans ((below_drewN' hB2 nq).mono (by have:=hB.size;rw[HH.out]at this;exact this))⟩
         ·have HY:=zh (HAll.out (by rw[HOk.out,HI.out,hl];rfl));go_wp2_with fail
          go_quiet (refine Calls.quiet_of_same ((HNm.out _).mono fun _ _ h=>⟨h.1,h.2.symm⟩))
          go_wp2_with fail
          go_roundw
          case rel=>exact⟨i+1,by omega,by go_num,below_drewN' hB2 nq,HY.out⟩
          case measure=>simp[intOf];omega
      ·have t0:decide ((i:Int)<(M:Int))=false:=by simp;omega
       have hDone:=HGo.out (fun j hj=>hall.out j (by omega));have HD:=zh hDone;clear hDone hall HNo HNS HGo;go_wp2_with fail
       have hB0:=hB2;go_loopw [7] (fun iv wr=>∃ i:Nat,i≤N∧iv=.int .i64 i∧Below W1.heap.size W1 wr∧Hid (R=rightEL (its.drop i) far)) (fun iv _=>N - (intOf iv).toNat)
       case atStart=>exact⟨0,by omega,rfl,hB0,by show _=_;rw[List.drop_zero];exact HD.out⟩
       case round =>
        clear hB0 hB2 a8 HD;obtain⟨i,hi,rfl,hB2,hR⟩:=hrel;have a9:wr.cell? ⟨H,9,none⟩=some (.slice p N cap):=by rw[zc (HBl.out _ hB2)];rfl
        by_cases hlt:i<N
        ·have t0:decide ((i:Int)<(N:Int))=true:=by simp;omega
         obtain⟨g,off,rfl,hg,ds,hv,hcl⟩:=H9.out i hlt;obtain⟨qn2,qi2,pn2,pk2,rfl⟩:=hv.form;have hBw:=HUp.out _ hB2;have x0:wr.cell? ⟨g,off+i*10,none⟩=some (.int .i64 (its.getD i noET).kind):=(hBw.cell (p:=⟨g,off+i*10+0,none⟩) hg).trans (hcl 0 (by decide));have x1:wr.cell? ⟨g,off+i*10+1,none⟩=some (.string ⟨(its.getD i noET).str.toArray⟩):=(hBw.cell (p:=⟨g,off+i*10+1,none⟩) hg).trans (hcl 1 (by decide));have x2:wr.cell? ⟨g,off+i*10+2,none⟩=some (.int .i64 (its.getD i noET).v.kind):=(hBw.cell (p:=⟨g,off+i*10+2,none⟩) hg).trans (hcl 2 (by decide));have x3:wr.cell? ⟨g,off+i*10+3,none⟩=some (.int .i64 (its.getD i noET).v.num):=(hBw.cell (p:=⟨g,off+i*10+3,none⟩) hg).trans (hcl 3 (by decide));have x4:wr.cell? ⟨g,off+i*10+4,none⟩=some (.float .f64 (its.getD i noET).v.flt):=(hBw.cell (p:=⟨g,off+i*10+4,none⟩) hg).trans (hcl 4 (by decide));have x5:wr.cell? ⟨g,off+i*10+5,none⟩=some (.string ⟨(its.getD i noET).v.str.toArray⟩):=(hBw.cell (p:=⟨g,off+i*10+5,none⟩) hg).trans (hcl 5 (by decide));have x6:wr.cell? ⟨g,off+i*10+6,none⟩=some (qn2):=(hBw.cell (p:=⟨g,off+i*10+6,none⟩) hg).trans (hcl 6 (by decide));have x7:wr.cell? ⟨g,off+i*10+7,none⟩=some (qi2):=(hBw.cell (p:=⟨g,off+i*10+7,none⟩) hg).trans (hcl 7 (by decide));have x8:wr.cell? ⟨g,off+i*10+8,none⟩=some (pn2):=(hBw.cell (p:=⟨g,off+i*10+8,none⟩) hg).trans (hcl 8 (by decide));have x9:wr.cell? ⟨g,off+i*10+9,none⟩=some (pk2):=(hBw.cell (p:=⟨g,off+i*10+9,none⟩) hg).trans (hcl 9 (by decide));have hv2:=hv.keptA (w':=wr) (by rw[HH.out];exact hBw);have hC:=ih.out _ _ far wr hv2 (by omega);have hdn:=rightEL_drop (l:=its) (i:=i) (f:=far) (by rw[HN.out];exact hlt);generalize its.getD i noET=k at *;have b1:(0:Int)≤(i:Int):=by omega
         have b2:(i:Int)<(N:Int):=by omega
         clear hcl hv hv2;cases hk:rightE k far
         ·rw[hk]at hC hdn;have HC:=zh hC;have HD:=zh hdn;clear hC hdn hk;go_wp2_with fail
          refine(HC.out).mono ?_;rintro e w5 ⟨rfl,hb5⟩;go_wp2_with fail
          go_ret;exact⟨ret_val (by rw[hR.out,HD.out]<;>rfl),by rw[HH.out];exact hB.trans ((below_tr' hB2 hb5).mono (by have:=hB.size;rw[HH.out]at this;exact this))⟩
         ·rw[hk]at hC hdn;have HC:=zh hC;have HD:=zh hdn;clear hC hdn hk;go_wp2_with fail
          refine(HC.out).mono ?_;rintro e w5 ⟨rfl,hb5⟩;go_wp2_with fail
          go_roundw
          case rel=>exact⟨i+1,by omega,by go_num,below_tr' hB2 hb5,by show _=_;rw[hR.out,HD.out,Bool.true_and]⟩
          case measure=>simp[intOf];omega
        ·have t0:decide ((i:Int)<(N:Int))=false:=by simp;omega
         have HF:=zh (rightEL_end (l:=its) (i:=i) (f:=far) (by rw[HN.out];omega));go_wp2_with fail
         go_ret;exact⟨ret_val (by rw[hR.out,HF.out]<;>rfl),by rw[HH.out];exact hB.trans (hB2.mono (by have:=hB.size;rw[HH.out]at this;exact this))⟩
    ·have e5:((M:Int) != (N:Int))=true:=bne_iff_ne.2 (fun h=>kc (by omega));have HR:=zh (show R=false from hr.trans (by rw[HM.out,decide_eq_false kc];simp));clear hr HNo0 HYes0;go_in;go_upto_region 1 with (fail)
     rw[HH.out];generalize w.alloc (.cells #[.int .i64 x.kind,.string S,.int .i64 x.v.kind,.int .i64 x.v.num,.float .f64 x.v.flt,.string ⟨x.v.str.toArray⟩,qn,qi,.slice np M nc,.slice p N cap] 29)=W1 at *;have nA:=(HBl.out _ (Below.refl _ _));obtain⟨a0,a1,a2,a3,a4,a5,a6,a7,a8,a9⟩:=cells10 nA;clear nA;go_wp2_with fail
     refine(HW.out _).mono ?_;rintro e w2 ⟨rfl,rfl⟩;go_wp2_with fail
     refine(HC.out).mono ?_;rintro e w3 ⟨rfl,hb3⟩;clear a0 a1 a2 a3 a4 a5 a6 a7 a8 a9;have nA:=(HBl.out _ hb3);obtain⟨a0,a1,a2,a3,a4,a5,a6,a7,a8,a9⟩:=cells10 nA;clear nA;go_wp2_with fail
     go_ret;exact⟨ret_val (by rw[HR.out]<;>rfl),by rw[HH.out];exact hB.trans (hb3.mono (by have:=hB.size;rw[HH.out]at this;exact this))⟩
end
end Go.Proofs.YtaaaaggmhjhkkaaGreatDoor
