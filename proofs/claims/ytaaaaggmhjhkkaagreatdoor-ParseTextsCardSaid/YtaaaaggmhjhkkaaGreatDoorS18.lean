/-
  T5, T9, Ta in one text.
-/
import Derived.Test.YtaaaaggmhjhkkaaGreatDoorS14
import Derived.Test.YtaaaaggmhjhkkaaGreatDoorCl
set_option maxRecDepth 100000
set_option maxHeartbeats 8000000
namespace Go.Proofs.YtaaaaggmhjhkkaaGreatDoor
section
open Go.RowKit
theorem rightEL_drop {l:List ET} {i f:Nat} (hi:i<l.length):rightEL (l.drop i) f=(rightE (l.getD i noET) f&&rightEL (l.drop (i+1)) f):=by
 have e:l.getD i noET=l[i]:=by simp[List.getD,hi]
 rw[List.drop_eq_getElem_cons hi,rightEL,e]
theorem rightEL_end {l:List ET} {i f:Nat} (hi:l.length≤i):rightEL (l.drop i) f=true:=by
 rw[List.drop_eq_nil_of_le hi,rightEL]
theorem rightE_zero (x:ET):rightE x 0=false:=by cases x;rw[rightE];rfl
theorem rightE_open (x:ET) (far:Nat):rightE x (far+1)=(decide (wantsE x.kind ≠ -2)&&(decide (wantsE x.kind = -1∨(x.kids.length:Int)=wantsE x.kind)&&(namedE x.kind x.str x.names x.kids.length&&((if x.kind=1 then constB x.v else noneV x.v)&&rightEL x.kids far)))):=by
 cases x
 rw[rightE,if_neg (by omega),Nat.add_sub_cancel];simp only[ET.kind,ET.str,ET.v,ET.names,ET.kids,Bool.and_assoc];rfl
theorem wants_cases' (k:Int) : -2≤wantsE k∧wantsE k≤3:=by
 unfold wantsE;repeat' split
 all_goals omega
theorem pright_any:∀ (d:Nat) (x:ET) (g o n far:Nat) (w:World),PtrE w d x g o→n+far=13 →
  Calls Tryz.prog 24 #[.pointer (some ⟨g,o,none⟩),.int .i64 (n:Int)] w (Gives (.bool (rightE x far)) w)
 | 0,_,_,_,_,_,_,h,_=>by obtain⟨_,_,h,_⟩:=h;exact h.elim
 | d+1,x,g,o,n,0,w,h,hn=>by
  have t0:decide ((12:Int)<(n:Int))=true:=by simp;omega
  have HR:=zh (rightE_zero x);have HK:=zh (fun w=>pkids_any x.kind w);obtain⟨qn,qi,pn,p,cap,hx⟩:=h.open
  have x0:=hx.c0;clear hx h;go_in;go_wp2_with fail
  refine(HK.out _).mono ?_;rintro e w1 ⟨rfl,rfl⟩;go_wp2_with fail
  go_ret;exact⟨ret_val (by rw[HR.out]<;>rfl),Below.refl _ _⟩
 | d+1,x,g,o,n,far+1,w,h,hn=>by
  have t0:decide ((12:Int)<(n:Int))=false:=by simp;omega
  have ih:=zh (pright_any d);have HK:=zh (fun w=>pkids_any x.kind w);have HR:=rightE_open x far;have HNm:=pnamed_any d x g o w h;obtain⟨qn,qi,pn,p,cap,hx⟩:=h.open
  obtain⟨dv,hpv⟩:=hx.v;obtain⟨dv',hvv⟩:=hx.val;have x0:=hx.c0;have x9:=hx.c9;have hg:=hx.lt;have H9:=zh hx.kid;have HKx:=zh (fun w' (hb:Below w.heap.size w w')=>(show w'.cell? ⟨g,o,none⟩=some (.int .i64 x.kind)∧w'.cell? ⟨g,o+2,none⟩=some (.int .i64 x.v.kind)∧w'.cell? ⟨g,o+9,none⟩=some (.slice p x.kids.length cap) from⟨(hb.cell (p:=⟨g,o,none⟩) hg).trans x0,(hb.cell (p:=⟨g,o+2,none⟩) hg).trans hx.c2,(hb.cell (p:=⟨g,o+9,none⟩) hg).trans x9⟩));have HVx:=zh (fun w' (hb:Below w.heap.size w w')=>(show w'.cell? ⟨g,o+2,none⟩=some (.int .i64 x.v.kind)∧w'.cell? ⟨g,o+3,none⟩=some (.int .i64 x.v.num)∧w'.cell? ⟨g,o+4,none⟩=some (.float .f64 x.v.flt)∧w'.cell? ⟨g,o+5,none⟩=some (.string ⟨x.v.str.toArray⟩)∧w'.cell? ⟨g,o+6,none⟩=some qn∧w'.cell? ⟨g,o+7,none⟩=some qi from⟨(hb.cell (p:=⟨g,o+2,none⟩) hg).trans hx.c2,(hb.cell (p:=⟨g,o+3,none⟩) hg).trans hx.c3,(hb.cell (p:=⟨g,o+4,none⟩) hg).trans hx.c4,(hb.cell (p:=⟨g,o+5,none⟩) hg).trans hx.c5,(hb.cell (p:=⟨g,o+6,none⟩) hg).trans hx.c6,(hb.cell (p:=⟨g,o+7,none⟩) hg).trans hx.c7⟩));have HC1:=fun w' (hb:Below w.heap.size w w')=>pconstant_any _ x.v _ w' (hvv.kept hb)
  have HC0:=fun w' (hb:Below w.heap.size w w')=>pnothing_any dv x.v g (o+2) w' (hpv.kept hb)
  have hmany:=hx.many;clear hx h hpv hvv;generalize x.kids=its at *;generalize hM:its.length=M at *;have HM:=zh hM;clear hM;have HG:=zh hg;generalize hgh:w.heap.size=H at *;have HH:=zh hgh;clear hgh hg;have hkb:=wants_cases' x.kind;generalize hK:wantsE x.kind=K at *;by_cases k1:K = -2
  ·subst k1;rw[show rightE x (far+1)=false from HR.trans (by simp)];clear HC0 HC1 HNm hkb;have HR:=zh HR;go_in;go_wp2_with fail
   refine(HK.out _).mono ?_;rintro e w1 ⟨rfl,rfl⟩;go_wp2_with fail
   go_ret;exact⟨rfl,by rw[HH.out];exact Below.refl _ _⟩
  have tk:(K == -2)=false:=beq_eq_false_iff_ne.2 k1;rw[decide_eq_true k1,Bool.true_and]at HR;by_cases k2:K = -1
  ·subst k2;have tg:decide ((0:Int) ≤ -1)=false:=by decide
   rw[decide_eq_true (Or.inl rfl),Bool.true_and]at HR;have kk:x.kind≠1:=fun h=>by rw[h]at hK;revert hK;decide
   rw[if_neg kk]at HR;have e1:(x.kind==1)=false:=beq_eq_false_iff_ne.2 kk;have e1':(x.kind != 1)=true:=bne_iff_ne.2 kk;have HCo:=HC0;clear HC0 HC1 kk hK hkb k1 HVx;cases nm:namedE x.kind x.str x.names M
   ·rw[nm]at HR HNm;have HR:=zh HR;have HNm:=zh HNm;go_in;go_wp2_with fail
    refine(HK.out _).mono ?_;rintro e w1 ⟨rfl,rfl⟩;go_wp2_with fail
    refine(HNm.out).mono ?_;rintro e w2 ⟨rfl,hb2⟩;rw[HH.out]at hb2;go_wp2_with fail
    go_ret;exact⟨ret_val (by rw[HR.out];rfl),by rw[HH.out];exact hb2⟩
   ·rw[nm,Bool.true_and]at HR;rw[nm]at HNm;have HNm:=zh HNm;cases cb:noneV x.v
    ·rw[cb]at HR HCo;have HR:=zh HR;have HCo:=zh HCo;go_in;go_wp2_with fail
     refine(HK.out _).mono ?_;rintro e w1 ⟨rfl,rfl⟩;go_wp2_with fail
     refine(HNm.out).mono ?_;rintro e w2 ⟨rfl,hb2⟩;rw[HH.out]at hb2;obtain⟨y0,y2,_⟩:=HKx.out _ hb2;go_wp2_with fail
     refine(HCo.out _ hb2).mono ?_;rintro e w3 ⟨rfl,rfl⟩;have hb4:=hb2;go_wp2_with fail
     go_ret;exact⟨ret_val (by rw[HR.out];rfl),by rw[HH.out];exact hb4⟩
    ·rw[cb,Bool.true_and]at HR;rw[cb]at HCo;have HR:=zh HR;have HCo:=zh HCo;go_in;go_wp2_with fail
     refine(HK.out _).mono ?_;rintro e w1 ⟨rfl,rfl⟩;go_wp2_with fail
     refine(HNm.out).mono ?_;rintro e w2 ⟨rfl,hb2⟩;rw[HH.out]at hb2;obtain⟨y0,y2,_⟩:=HKx.out _ hb2;go_wp2_with fail
     refine(HCo.out _ hb2).mono ?_;rintro e w3 ⟨rfl,rfl⟩;have hB0:=hb2;have y9:=(HKx.out _ hB0).2.2;clear hb2 y0;go_wp2_with fail
     clear y9;go_loopw [68] (fun iv wr=>∃ i:Nat,i≤M∧iv=.int .i64 i∧Below H w wr∧Hid (rightEL its far=rightEL (its.drop i) far)) (fun iv _=>M - (intOf iv).toNat)
     case atStart=>exact⟨0,by omega,rfl,hB0,by show _=_;rw[List.drop_zero]⟩
     case round =>
      clear hB0;obtain⟨i,hi,rfl,hB,hE⟩:=hrel;have hHw:H≤wr.heap.size:=by have:=hB.size;rw[HH.out]at this;exact this
      have y9:=(HKx.out _ hB).2.2;by_cases hlt:i<M
      ·have t7:decide ((i:Int)<(M:Int))=true:=by simp;omega
       obtain⟨g',o',rfl,hg',hv⟩:=H9.out i hlt;have hv2:=hv.kept (w':=wr) (by rw[HH.out];exact hB);have HC:=ih.out _ _ _ (n+1) far wr hv2 (by omega);have HD:=rightEL_drop (l:=its) (i:=i) (f:=far) (by rw[HM.out];exact hlt);generalize its.getD i noET=k at *;have b1:(0:Int)≤(i:Int):=by omega
       have b2:(i:Int)<(M:Int):=by omega
       have b3:((n:Int)+1)=((n+1:Nat):Int):=by omega
       rw[←b3]at HC;clear hv hv2 b3;cases hr:rightE k far
       ·rw[hr]at HC HD;have HC:=zh HC;have HD:=zh HD;go_wp2_with fail
        refine(HC.out).mono ?_;rintro e w5 ⟨rfl,hb5⟩;go_wp2_with fail
        go_ret;exact⟨ret_val (by rw[HR.out,hE.out,HD.out];rfl),by rw[HH.out];exact hB.trans (hb5.mono hHw)⟩
       ·rw[hr]at HC HD;have HC:=zh HC;have HD:=zh HD;go_wp2_with fail
        refine(HC.out).mono ?_;rintro e w5 ⟨rfl,hb5⟩;go_wp2_with fail
        go_roundw
        case rel=>exact⟨i+1,by omega,by go_num,hB.trans (hb5.mono hHw),by show _=_;rw[hE.out,HD.out,Bool.true_and]⟩
        case measure=>simp[intOf];omega
      ·have t7:decide ((i:Int)<(M:Int))=false:=by simp;omega
       have HF:=zh (rightEL_end (l:=its) (i:=i) (f:=far) (by rw[HM.out];omega));go_wp2_with fail
       go_ret;exact⟨ret_val (by rw[HR.out,hE.out,HF.out]<;>rfl),by rw[HH.out];exact hB⟩
  have tg:decide ((0:Int)≤K)=true:=by simp;omega
  by_cases k3:(M:Int)=K
  ·subst k3;have tm:((M:Int) != (M:Int))=false:=by simp
   rw[decide_eq_true (Or.inr rfl),Bool.true_and]at HR;by_cases kk:x.kind=1
   ·rw[if_pos kk]at HR;have e1:(x.kind==1)=true:=by rw[kk];rfl
    have e1':(x.kind != 1)=false:=by rw[kk];rfl
    have HCo:=HC1;clear HC0 HC1 kk hK hkb k1 k2;cases nm:namedE x.kind x.str x.names M
    ·rw[nm]at HR HNm;have HR:=zh HR;have HNm:=zh HNm;go_in;go_wp2_with fail
     refine(HK.out _).mono ?_;rintro e w1 ⟨rfl,rfl⟩;go_wp2_with fail
     refine(HNm.out).mono ?_;rintro e w2 ⟨rfl,hb2⟩;rw[HH.out]at hb2;go_wp2_with fail
     go_ret;exact⟨ret_val (by rw[HR.out];rfl),by rw[HH.out];exact hb2⟩
    ·rw[nm,Bool.true_and]at HR;rw[nm]at HNm;have HNm:=zh HNm;cases cb:constB x.v
     ·rw[cb]at HR HCo;have HR:=zh HR;have HCo:=zh HCo;go_in;go_wp2_with fail
      refine(HK.out _).mono ?_;rintro e w1 ⟨rfl,rfl⟩;go_wp2_with fail
      refine(HNm.out).mono ?_;rintro e w2 ⟨rfl,hb2⟩;rw[HH.out]at hb2;obtain⟨y0,y2,_⟩:=HKx.out _ hb2;obtain⟨v0,v1,v2,v3,v4,v5⟩:=HVx.out _ hb2;go_wp2_with fail
      refine(HCo.out _ hb2).mono ?_;rintro e w3 ⟨rfl,hb3⟩;have hb4:=hb2.trans (hb3.mono (by have:=hb2.size;rw[HH.out]at this;exact this));obtain⟨z0,_,_⟩:=HKx.out _ hb4;go_wp2_with fail
      go_ret;exact⟨ret_val (by rw[HR.out];rfl),by rw[HH.out];exact hb4⟩
     ·rw[cb,Bool.true_and]at HR;rw[cb]at HCo;have HR:=zh HR;have HCo:=zh HCo;go_in;go_wp2_with fail
      refine(HK.out _).mono ?_;rintro e w1 ⟨rfl,rfl⟩;go_wp2_with fail
      refine(HNm.out).mono ?_;rintro e w2 ⟨rfl,hb2⟩;rw[HH.out]at hb2;obtain⟨y0,y2,_⟩:=HKx.out _ hb2;obtain⟨v0,v1,v2,v3,v4,v5⟩:=HVx.out _ hb2;go_wp2_with fail
      refine(HCo.out _ hb2).mono ?_;rintro e w3 ⟨rfl,hb3⟩;have hB0:=hb2.trans (hb3.mono (by have:=hb2.size;rw[HH.out]at this;exact this));have y9:=(HKx.out _ hB0).2.2;clear hb2 y0;have z0:=(HKx.out _ hB0).1;go_wp2_with fail
      clear y9;go_loopw [68] (fun iv wr=>∃ i:Nat,i≤M∧iv=.int .i64 i∧Below H w wr∧Hid (rightEL its far=rightEL (its.drop i) far)) (fun iv _=>M - (intOf iv).toNat)
      case atStart=>exact⟨0,by omega,rfl,hB0,by show _=_;rw[List.drop_zero]⟩
      case round =>
       clear hB0;obtain⟨i,hi,rfl,hB,hE⟩:=hrel;have hHw:H≤wr.heap.size:=by have:=hB.size;rw[HH.out]at this;exact this
       have y9:=(HKx.out _ hB).2.2;by_cases hlt:i<M
       ·have t7:decide ((i:Int)<(M:Int))=true:=by simp;omega
        obtain⟨g',o',rfl,hg',hv⟩:=H9.out i hlt;have hv2:=hv.kept (w':=wr) (by rw[HH.out];exact hB);have HC:=ih.out _ _ _ (n+1) far wr hv2 (by omega);have HD:=rightEL_drop (l:=its) (i:=i) (f:=far) (by rw[HM.out];exact hlt);generalize its.getD i noET=k at *;have b1:(0:Int)≤(i:Int):=by omega
        have b2:(i:Int)<(M:Int):=by omega
        have b3:((n:Int)+1)=((n+1:Nat):Int):=by omega
        rw[←b3]at HC;clear hv hv2 b3;cases hr:rightE k far
        ·rw[hr]at HC HD;have HC:=zh HC;have HD:=zh HD;go_wp2_with fail
         refine(HC.out).mono ?_;rintro e w5 ⟨rfl,hb5⟩;go_wp2_with fail
         go_ret;exact⟨ret_val (by rw[HR.out,hE.out,HD.out];rfl),by rw[HH.out];exact hB.trans (hb5.mono hHw)⟩
        ·rw[hr]at HC HD;have HC:=zh HC;have HD:=zh HD;go_wp2_with fail
         refine(HC.out).mono ?_;rintro e w5 ⟨rfl,hb5⟩;go_wp2_with fail
         go_roundw
         case rel=>exact⟨i+1,by omega,by go_num,hB.trans (hb5.mono hHw),by show _=_;rw[hE.out,HD.out,Bool.true_and]⟩
         case measure=>simp[intOf];omega
       ·have t7:decide ((i:Int)<(M:Int))=false:=by simp;omega
        have HF:=zh (rightEL_end (l:=its) (i:=i) (f:=far) (by rw[HM.out];omega));go_wp2_with fail
        go_ret;exact⟨ret_val (by rw[HR.out,hE.out,HF.out]<;>rfl),by rw[HH.out];exact hB⟩
   ·rw[if_neg kk]at HR;have e1:(x.kind==1)=false:=beq_eq_false_iff_ne.2 kk;have e1':(x.kind != 1)=true:=bne_iff_ne.2 kk;have HCo:=HC0;clear HC0 HC1 kk hK hkb k1 k2 HVx;cases nm:namedE x.kind x.str x.names M
    ·rw[nm]at HR HNm;have HR:=zh HR;have HNm:=zh HNm;go_in;go_wp2_with fail
     refine(HK.out _).mono ?_;rintro e w1 ⟨rfl,rfl⟩;go_wp2_with fail
     refine(HNm.out).mono ?_;rintro e w2 ⟨rfl,hb2⟩;rw[HH.out]at hb2;go_wp2_with fail
     go_ret;exact⟨ret_val (by rw[HR.out];rfl),by rw[HH.out];exact hb2⟩
    ·rw[nm,Bool.true_and]at HR;rw[nm]at HNm;have HNm:=zh HNm;cases cb:noneV x.v
     ·rw[cb]at HR HCo;have HR:=zh HR;have HCo:=zh HCo;go_in;go_wp2_with fail
      refine(HK.out _).mono ?_;rintro e w1 ⟨rfl,rfl⟩;go_wp2_with fail
      refine(HNm.out).mono ?_;rintro e w2 ⟨rfl,hb2⟩;rw[HH.out]at hb2;obtain⟨y0,y2,_⟩:=HKx.out _ hb2;go_wp2_with fail
      refine(HCo.out _ hb2).mono ?_;rintro e w3 ⟨rfl,rfl⟩;have hb4:=hb2;go_wp2_with fail
      go_ret;exact⟨ret_val (by rw[HR.out];rfl),by rw[HH.out];exact hb4⟩
     ·rw[cb,Bool.true_and]at HR;rw[cb]at HCo;have HR:=zh HR;have HCo:=zh HCo;go_in;go_wp2_with fail
      refine(HK.out _).mono ?_;rintro e w1 ⟨rfl,rfl⟩;go_wp2_with fail
      refine(HNm.out).mono ?_;rintro e w2 ⟨rfl,hb2⟩;rw[HH.out]at hb2;obtain⟨y0,y2,_⟩:=HKx.out _ hb2;go_wp2_with fail
      refine(HCo.out _ hb2).mono ?_;rintro e w3 ⟨rfl,rfl⟩;have hB0:=hb2;have y9:=(HKx.out _ hB0).2.2;clear hb2 y0;go_wp2_with fail
      clear y9;go_loopw [68] (fun iv wr=>∃ i:Nat,i≤M∧iv=.int .i64 i∧Below H w wr∧Hid (rightEL its far=rightEL (its.drop i) far)) (fun iv _=>M - (intOf iv).toNat)
      case atStart=>exact⟨0,by omega,rfl,hB0,by show _=_;rw[List.drop_zero]⟩
      case round =>
       clear hB0;obtain⟨i,hi,rfl,hB,hE⟩:=hrel;have hHw:H≤wr.heap.size:=by have:=hB.size;rw[HH.out]at this;exact this
       have y9:=(HKx.out _ hB).2.2;by_cases hlt:i<M
       ·have t7:decide ((i:Int)<(M:Int))=true:=by simp;omega
        obtain⟨g',o',rfl,hg',hv⟩:=H9.out i hlt;have hv2:=hv.kept (w':=wr) (by rw[HH.out];exact hB);have HC:=ih.out _ _ _ (n+1) far wr hv2 (by omega);have HD:=rightEL_drop (l:=its) (i:=i) (f:=far) (by rw[HM.out];exact hlt);generalize its.getD i noET=k at *;have b1:(0:Int)≤(i:Int):=by omega
        have b2:(i:Int)<(M:Int):=by omega
        have b3:((n:Int)+1)=((n+1:Nat):Int):=by omega
        rw[←b3]at HC;clear hv hv2 b3;cases hr:rightE k far
        ·rw[hr]at HC HD;have HC:=zh HC;have HD:=zh HD;go_wp2_with fail
         refine(HC.out).mono ?_;rintro e w5 ⟨rfl,hb5⟩;go_wp2_with fail
         go_ret;exact⟨ret_val (by rw[HR.out,hE.out,HD.out];rfl),by rw[HH.out];exact hB.trans (hb5.mono hHw)⟩
        ·rw[hr]at HC HD;have HC:=zh HC;have HD:=zh HD;go_wp2_with fail
         refine(HC.out).mono ?_;rintro e w5 ⟨rfl,hb5⟩;go_wp2_with fail
         go_roundw
         case rel=>exact⟨i+1,by omega,by go_num,hB.trans (hb5.mono hHw),by show _=_;rw[hE.out,HD.out,Bool.true_and]⟩
         case measure=>simp[intOf];omega
       ·have t7:decide ((i:Int)<(M:Int))=false:=by simp;omega
        have HF:=zh (rightEL_end (l:=its) (i:=i) (f:=far) (by rw[HM.out];omega));go_wp2_with fail
        go_ret;exact⟨ret_val (by rw[HR.out,hE.out,HF.out]<;>rfl),by rw[HH.out];exact hB⟩
  ·have tm:((M:Int) != K)=true:=bne_iff_ne.2 k3;rw[show rightE x (far+1)=false from HR.trans (by rw[decide_eq_false (by omega:¬ (K = -1∨(M:Int)=K))];simp)];clear HC0 HC1 HNm hkb k1 k2 k3;have HR:=zh HR;go_in;go_wp2_with fail
   refine(HK.out _).mono ?_;rintro e w1 ⟨rfl,rfl⟩;go_wp2_with fail
   go_ret;exact⟨rfl,by rw[HH.out];exact Below.refl _ _⟩
theorem pRight_any (d:Nat) (x:ET) (cs:Array Value) (w:World) (h:ExAt' w d x cs):Calls Tryz.prog 10 #[.agg cs] w (Gives (.bool (rightEx x)) w):=by
 have hB:Below w.heap.size w (w.alloc (.cells cs 29)):=(Below.refl _ _).alloc (Nat.le_refl _) _;have hp:=h.box hB (heap_alloc_new w _);have hnew:=heap_alloc_new w (.cells cs 29);have HP:=zh (pParts_any d x cs _ (h.below hB));have HR:=fun w' hb=>pright_any d x w.heap.size 0 1 12 w' (hp.kept hb) (by omega)
 have hE:rightEx x=(decide (countE x 0≤200)&&rightE x 12):=rfl;obtain⟨na,nl,nc,ia,il,ic,ma,ml,mc,ka,kl,kc,rfl⟩:=h.ten;clear h hp;generalize hW:w.alloc _=W at *;have HW:=zh hW;clear hW;have c0:=zc hnew 0;have c1:=zc hnew 1;have c2:=zc hnew 2;have c3:=zc hnew 3;have c4:=zc hnew 4;have c5:=zc hnew 5;have c6:=zc hnew 6;have c7:=zc hnew 7;have c8:=zc hnew 8;have c9:=zc hnew 9;simp only[List.getElem?_toArray,List.getElem?_cons_zero,List.getElem?_cons_succ]at c0 c1 c2 c3 c4 c5 c6 c7 c8 c9;clear hnew;by_cases hc:countE x 0≤200
 ·have t1:decide (((countE x 0:Nat):Int)≤200)=true:=by simp;omega
  rw[decide_eq_true hc,Bool.true_and]at hE;have HE:=zh hE;have HR:=zh HR;clear hE hc;go_in;go_wp2_with fail
  rw[HW.out];go_wp2_with fail
  refine(HP.out).mono ?_;rintro e w2 ⟨rfl,hb2⟩;go_wp2_with fail
  refine(HR.out _ hb2).mono ?_;rintro e w3 ⟨rfl,hb3⟩;go_wp2_with fail
  go_ret;exact⟨ret_val (by rw[HE.out]<;>rfl),hB.trans ((hb2.mono hB.size).trans (hb3.mono (Nat.le_trans hB.size hb2.size)))⟩
 ·have t1:decide (((countE x 0:Nat):Int)≤200)=false:=by simp;omega
  rw[decide_eq_false hc,Bool.false_and]at hE;have HE:=zh hE;clear hE hc HR;go_in;go_wp2_with fail
  rw[HW.out];go_wp2_with fail
  refine(HP.out).mono ?_;rintro e w2 ⟨rfl,hb2⟩;go_wp2_with fail
  go_ret;exact⟨ret_val (by rw[HE.out]<;>rfl),hB.trans (hb2.mono hB.size)⟩
end
section
open Go.RowKit
theorem bt_pp:BT 54:=⟨by kernel_rfl,by decide⟩
/-- texts and kids, in turns -/
def allT:List (List UInt8)→List (List UInt8)→List UInt8
 | [],_=>[]
 | t::ts,[]=>t++allT ts []
 | t::ts,k::ks=>t++(k++allT ts ks)
theorem allT_yes {ts ks:List (List UInt8)} {i:Nat} (h:i<ts.length) (hk:i<ks.length):allT (ts.drop i) (ks.drop i)=ts.getD i []++(ks.getD i []++allT (ts.drop (i+1)) (ks.drop (i+1))):=by
 rw[List.drop_eq_getElem_cons h,List.drop_eq_getElem_cons hk,allT];simp[List.getD,h,hk]
theorem allT_no {ts ks:List (List UInt8)} {i:Nat} (h:i<ts.length) (hk:ks.length≤i):allT (ts.drop i) (ks.drop i)=ts.getD i []++allT (ts.drop (i+1)) (ks.drop (i+1)):=by
 rw[List.drop_eq_getElem_cons h,List.drop_eq_nil_of_le hk,List.drop_eq_nil_of_le (by omega:ks.length≤i+1),allT];simp[List.getD,h]
theorem allT_end {ts ks:List (List UInt8)} {i:Nat} (h:ts.length≤i):allT (ts.drop i) (ks.drop i)=[]:=by
 rw[List.drop_eq_nil_of_le h,allT]
theorem textEL_getD:∀ (l:List ET) (i:Nat),i<l.length→(textEL l).getD i []=textE (l.getD i noET)
 | [],i,h=>by simp at h
 | x::xs,0,_=>by rw[textEL];rfl
 | x::xs,i+1,h=>by
  rw[textEL];have:=textEL_getD xs i (by simpa using h);simpa [List.getD] using this
theorem textEL_len:∀ l:List ET,(textEL l).length=l.length
 | []=>rfl
 | x::xs=>by rw[textEL,List.length_cons,textEL_len xs,List.length_cons]
/-- what the printer's expr does, so many deep in memory -/
def PE (d:Nat):Prop:=∀ (x:ET) (far g o B b:Nat) (ob:List UInt8) (u w:World),ob.length+(textE x).length≤90000000→u.heap.size≤B→Below u.heap.size u w→Env u→Bld 54 B b ob w→PtrE u d x g o→rightE x far=true →
 Calls Tryz.prog 22 #[.pointer (some ⟨b,0,none⟩),.pointer (some ⟨g,o,none⟩)] w fun e w'=>e=.returned (.tuple #[])∧Bld 54 B b (ob++textE x) w'∧Wrote B b w w'
theorem rightEL_at {l:List ET} {f i:Nat} (h:rightEL l f=true) (hi:i<l.length):rightE (l.getD i noET) f=true:=by
 induction l generalizing i with
 | nil=>simp at hi
 | cons x xs ih =>
  rw[rightEL,Bool.and_eq_true]at h;cases i with
  | zero=>exact h.1
  | succ i=>exact ih h.2 (by simpa using hi)
theorem below_wrote {B b:Nat} {u w w':World} (hu:u.heap.size≤B) (h:Below u.heap.size u w) (k:Wrote B b w w'):Below u.heap.size u w':=h.trans (k.1.mono hu)
theorem pall_any (d:Nat) (ih:PE d) (x:ET) (far g o B b gs:Nat) (ts:List (List UInt8)) (ob:List UInt8) (u w:World) (hl:ob.length+(allT ts (textEL x.kids)).length≤90000000) (hN:ts.length≤20) (hu:u.heap.size≤B) (huw:Below u.heap.size u w) (hE:Env u) (hb:Bld 54 B b ob w)
  (hx:PtrE u (d+1) x g o) (hr:rightEL x.kids far=true) (hts:∀ w',Wrote B b w w'→∀ i,i<ts.length→w'.cell? ⟨gs,i,none⟩=some (.string ⟨(ts.getD i []).toArray⟩)) (cap:Nat) :
  Calls Tryz.prog 45 #[.pointer (some ⟨b,0,none⟩),.pointer (some ⟨g,o,none⟩),.slice (some ⟨gs,0,none⟩) ts.length cap] w fun e w'=>e=.returned (.tuple #[])∧Bld 54 B b (ob++allT ts (textEL x.kids)) w'∧Wrote B b w w':=by
 obtain⟨qn,qi,pn,p,kcap,hx'⟩:=hx.open
 have hg:=hx'.lt;have HK9:=zh (fun w' (h:Below u.heap.size u w')=>(h.cell (p:=⟨g,o+9,none⟩) hg).trans hx'.c9);have HKid:=zh (fun i (hi:i<x.kids.length)=>hx'.kid i hi);have HR:=zh (fun i (hi:i<x.kids.length)=>rightEL_at hr hi);have HTs:=zh hts;have hmany:=hx'.many;have hkl:=textEL_len x.kids;have HKt:=zh (fun i hi=>textEL_getD x.kids i hi);clear hx hx' hr hts;generalize textEL x.kids=ks at *;generalize x.kids=kids at *;generalize hM:kids.length=M at *;generalize hNN:ts.length=N at *;have HN:=zh hNN;have HM:=zh hkl;clear hM hNN hkl;have hW0:=Wrote.refl B b w;have HTot:=zh (rfl:ob++allT ts ks=ob++allT ts ks);have hBS:=hb.1;go_in;go_wp2_with fail
 go_loopw [10] (fun iv wr=>∃ i obi,i≤N∧iv=.int .i64 (i:Nat)∧Bld 54 B b obi wr∧Wrote B b w wr∧Hid (obi++allT (ts.drop i) (ks.drop i)=ob++allT ts ks)) (fun iv _=>N - (intOf iv).toNat)
 case atStart=>exact⟨0,ob,by omega,rfl,hb,hW0,by show _=_;rw[List.drop_zero,List.drop_zero]⟩
 case round =>
  clear hb hW0;obtain⟨i,obi,hi,rfl,hb,hwr,heq⟩:=hrel;by_cases hlt:i<N
  ·have t0:decide ((i:Int)<(N:Int))=true:=by simp;omega
   have x0:=HTs.out wr hwr i hlt;have b1:(0:Int)≤(i:Int):=by omega
   have b2:(i:Int)<(N:Int):=by omega
   have htl:=congrArg List.length heq.out;have HT1:=zh htl;by_cases hk:i<M
   ·have t1:decide ((i:Int)<(M:Int))=true:=by simp;omega
    have b3:(i:Int)<(M:Int):=by omega
    have hA:=allT_yes (ts:=ts) (ks:=ks) (i:=i) (by rw[HN.out];exact hlt) (by rw[HM.out];exact hk);rw[HKt.out i hk]at hA;have HA:=zh hA;obtain⟨g',o',rfl,hg',hv⟩:=HKid.out i hk;have hri:=HR.out i hk;rw[hA]at htl;simp only[List.length_append]at htl;have HWS:=zh (hb.writeS bt_pp (ts.getD i []) (by omega));have HL:=zh (show obi.length+(ts.getD i []).length+(textE (kids.getD i noET)).length≤90000000 by omega);clear hA htl hb;generalize kids.getD i noET=k at *;generalize ts.getD i []=s at *;go_wp2_with fail
    refine(HWS.out).mono ?_;rintro e w3 ⟨rfl,hb3,hw3⟩;have hw13:=hwr.trans hw3;have hu3:=below_wrote hu huw hw13;have y9:=HK9.out _ hu3;have HC:=zh (ih k far g' (o'+i*10) B b (obi++s) u w3 (by have:=HL.out;rw[List.length_append];omega) hu hu3 hE hb3 hv hri);clear hb3 hv;go_wp2_with fail
    refine(HC.out).mono ?_;rintro e w5 ⟨rfl,hb5,hw5⟩;go_wp2_with fail
    go_roundw
    case rel=>exact⟨i+1,_,by omega,by go_num,hb5,hw13.trans hw5,by show _=_;rw[←heq.out,HA.out];simp only[List.append_assoc]⟩
    case measure=>simp[intOf];omega
   ·have t1:decide ((i:Int)<(M:Int))=false:=by simp;omega
    have hA:=allT_no (ts:=ts) (ks:=ks) (i:=i) (by rw[HN.out];exact hlt) (by rw[HM.out];omega);have HA:=zh hA;rw[hA]at htl;simp only[List.length_append]at htl;have HWS:=zh (hb.writeS bt_pp (ts.getD i []) (by omega));clear hA htl hb;generalize ts.getD i []=s at *;go_wp2_with fail
    refine(HWS.out).mono ?_;rintro e w3 ⟨rfl,hb3,hw3⟩;have hw13:=hwr.trans hw3;have hu3:=below_wrote hu huw hw13;have y9:=HK9.out _ hu3;go_wp2_with fail
    go_roundw
    case rel=>exact⟨i+1,_,by omega,by go_num,hb3,hw13,by show _=_;rw[←heq.out,HA.out];simp only[List.append_assoc]⟩
    case measure=>simp[intOf];omega
  ·have t0:decide ((i:Int)<(N:Int))=false:=by simp;omega
   have hA:=allT_end (ts:=ts) (ks:=ks) (i:=i) (by rw[HN.out];omega);have HX:=zh (show obi=ob++allT ts ks by rw[←heq.out,hA,List.append_nil]);clear hA;go_wp2_with fail
   go_end0;exact⟨rfl,by rw[←HX.out];exact hb,hwr⟩
theorem pfirst_any (d:Nat) (ih:PE d) (x:ET) (far g o B b:Nat) (ob:List UInt8) (u w:World) (hl:ob.length+(firstT x.kind (textE x)).length≤90000000) (hu:u.heap.size≤B) (huw:Below u.heap.size u w) (hE:Env u) (hb:Bld 54 B b ob w)
  (hx:PtrE u d x g o) (hr:rightE x far=true) :
  Calls Tryz.prog 47 #[.pointer (some ⟨b,0,none⟩),.pointer (some ⟨g,o,none⟩)] w fun e w'=>e=.returned (.tuple #[])∧Bld 54 B b (ob++firstT x.kind (textE x)) w'∧Wrote B b w w':=by
 have hx0:∀ w',Below u.heap.size u w'→w'.cell? ⟨g,o,none⟩=some (.int .i64 x.kind):=by
  intro w' h;cases d with
  | zero=>obtain⟨_,_,h,_⟩:=hx;exact h.elim
  | succ d =>
   obtain⟨qn,qi,pn,p,kcap,hx'⟩:=hx.open
   exact(h.cell (p:=⟨g,o,none⟩) hx'.lt).trans hx'.c0
 have x0:=hx0 w huw;have HF:=firstT.eq_1 x.kind (textE x);by_cases hk:x.kind=1
 ·have t1:(x.kind==1)=true:=by rw[hk];rfl
  rw[if_pos hk]at HF;rw[HF]at hl;simp only[List.length_cons,List.length_append,List.length_nil]at hl;have HW:=zh (show Calls Tryz.prog 48 #[.pointer (some ⟨b,0,none⟩),.int .u8 40] w _ from hb.write bt_pp (by omega) 40);have HF:=zh HF;clear hk hb;go_in;go_wp2_with fail
  refine(HW.out).mono ?_;rintro e w3 ⟨rfl,hb3,hw3⟩;have HC:=zh (ih x far g o B b (ob++[40]) u w3 (by rw[List.length_append,List.length_cons,List.length_nil];omega) hu (below_wrote hu huw hw3) hE hb3 hx hr);clear hb3;go_wp2_with fail
  refine(HC.out).mono ?_;rintro e w5 ⟨rfl,hb5,hw5⟩;have HW6:=zh (show Calls Tryz.prog 48 #[.pointer (some ⟨b,0,none⟩),.int .u8 41] w5 _ from hb5.write bt_pp (by simp only[List.length_append,List.length_cons,List.length_nil];omega) 41);clear hb5;go_wp2_with fail
  refine(HW6.out).mono ?_;rintro e w7 ⟨rfl,hb7,hw7⟩;go_wp2_with fail
  refine bodyPost_ret (results_none rfl _ _ _) rfl ?_;exact⟨rfl,by rw[HF.out];simpa only[List.append_assoc,List.cons_append,List.nil_append] using hb7,hw3.trans (hw5.trans hw7)⟩
 ·have t1:(x.kind==1)=false:=beq_eq_false_iff_ne.2 hk;rw[if_neg hk]at HF;rw[HF]at hl;have HC:=zh (ih x far g o B b ob u w hl hu huw hE hb hx hr);have HF:=zh HF;clear hk hb;go_in;go_wp2_with fail
  refine(HC.out).mono ?_;rintro e w5 ⟨rfl,hb5,hw5⟩;go_wp2_with fail
  go_end0;exact⟨rfl,by rw[HF.out];exact hb5,hw5⟩
end
section
open Go.RowKit
theorem ba_cat (a b:List UInt8):((⟨a.toArray⟩:ByteArray)++(⟨b.toArray⟩:ByteArray))=⟨(a++b).toArray⟩:=by
 apply ByteArray.ext
 simp[ByteArray.data_append]
theorem wrote_drew {B b:Nat} {w u:World} (h:Wrote B b w.drew u):Wrote B b w u:=((Wrote.refl B b w).drew).trans h
theorem headD_drop {α:Type} (l:List α) (i:Nat) (d:α):(l.drop i).headD d=l.getD i d:=by
 induction l generalizing i with
 | nil=>simp
 | cons a l ih=>cases i with
  | zero=>rfl
  | succ i=>exact ih i
theorem rowJ_step {named:Bool} {ns ts:List (List UInt8)} {i:Nat} (h:i<ts.length):rowJ named (decide (i=0)) (ns.drop i) (ts.drop i)=(if i=0 then [] else [44])++((if named then ns.getD i []++[58] else [])++(ts.getD i []++rowJ named false (ns.drop (i+1)) (ts.drop (i+1)))):=by
 rw[List.drop_eq_getElem_cons h,rowJ,headD_drop,List.tail_drop,show ts[i]=ts.getD i [] by simp[List.getD,h]];by_cases hi:i=0<;>simp[hi]
theorem rowJ_f0 {ns ts:List (List UInt8)} {i:Nat} (h:i<ts.length) (hi:i=0):rowJ false (decide (i=0)) (ns.drop i) (ts.drop i)=ts.getD i []++rowJ false false (ns.drop (i+1)) (ts.drop (i+1)):=by
 rw[rowJ_step h,if_pos hi];rfl
theorem rowJ_f1 {ns ts:List (List UInt8)} {i:Nat} (h:i<ts.length) (hi:¬ i=0):rowJ false (decide (i=0)) (ns.drop i) (ts.drop i)=[44]++(ts.getD i []++rowJ false false (ns.drop (i+1)) (ts.drop (i+1))):=by
 rw[rowJ_step h,if_neg hi];rfl
theorem rowJ_t0 {ns ts:List (List UInt8)} {i:Nat} (h:i<ts.length) (hi:i=0):rowJ true (decide (i=0)) (ns.drop i) (ts.drop i)=(ns.getD i []++[58])++(ts.getD i []++rowJ true false (ns.drop (i+1)) (ts.drop (i+1))):=by
 rw[rowJ_step h,if_pos hi];rfl
theorem rowJ_t1 {ns ts:List (List UInt8)} {i:Nat} (h:i<ts.length) (hi:¬ i=0):rowJ true (decide (i=0)) (ns.drop i) (ts.drop i)=[44]++((ns.getD i []++[58])++(ts.getD i []++rowJ true false (ns.drop (i+1)) (ts.drop (i+1)))):=by
 rw[rowJ_step h,if_neg hi];rfl
theorem rowJ_end {named f:Bool} {ns ts:List (List UInt8)} {i:Nat} (h:ts.length≤i):rowJ named f ns (ts.drop i)=[]:=by
 rw[List.drop_eq_nil_of_le h,rowJ]
theorem prow_false (d:Nat) (ih:PE d) (x:ET) (far g o B b:Nat) (op cl:UInt8) (ob:List UInt8) (u w:World) (hl:ob.length+([op]++rowJ false true x.names (textEL x.kids)++[cl]).length≤90000000) (hu:u.heap.size≤B) (huw:Below u.heap.size u w) (hE:Env u) (hb:Bld 54 B b ob w)
  (hx:PtrE u (d+1) x g o) (hr:rightEL x.kids far=true) (t17:(x.kind==17)=false) :
  Calls Tryz.prog 46 #[.pointer (some ⟨b,0,none⟩),.pointer (some ⟨g,o,none⟩),.string ⟨#[op]⟩,.string ⟨#[cl]⟩] w fun e w'=>e=.returned (.tuple #[])∧Bld 54 B b (ob++([op]++rowJ false true x.names (textEL x.kids)++[cl])) w'∧Wrote B b w w':=by
 obtain⟨qn,qi,pn,p,kcap,hx'⟩:=hx.open
 have hg:=hx'.lt;obtain⟨np,ncap,rfl⟩:=hx'.strs.lenOf;have hkx:=fun w' (h:Below u.heap.size u w')=>(show w'.cell? ⟨g,o,none⟩=some (.int .i64 x.kind)∧w'.cell? ⟨g,o+8,none⟩=some (.slice np x.names.length ncap)∧w'.cell? ⟨g,o+9,none⟩=some (.slice p x.kids.length kcap) from⟨(h.cell (p:=⟨g,o,none⟩) hg).trans hx'.c0,(h.cell (p:=⟨g,o+8,none⟩) hg).trans hx'.c8,(h.cell (p:=⟨g,o+9,none⟩) hg).trans hx'.c9⟩)
 have HKid:=zh (fun i (hi:i<x.kids.length)=>hx'.kid i hi);have HR:=zh (fun i (hi:i<x.kids.length)=>rightEL_at hr hi);have HKx:=zh hkx;have hmany:=hx'.many;have hkl:=textEL_len x.kids;have HKt:=zh (fun i hi=>textEL_getD x.kids i hi);clear hx hx' hr hkx;generalize textEL x.kids=ks at *;generalize x.kids=kids at *;generalize hns2:x.names=ns at *;generalize x.kind=K at *;generalize hM:kids.length=M at *;have HM:=zh hkl;clear hM hkl hns2;simp only[List.length_append,List.length_cons,List.length_nil]at hl;have HO:=zh (show Calls Tryz.prog 44 #[.pointer (some ⟨b,0,none⟩),.string ⟨#[op]⟩] w _ from hb.writeS bt_pp [op] (by simp only[List.length_cons,List.length_nil];omega));clear hb;go_in;go_wp2_with fail
 refine(HO.out).mono ?_;rintro e w1 ⟨rfl,hb1,hw1⟩;obtain⟨y0,y8,y9⟩:=HKx.out _ (below_wrote hu huw hw1);go_wp2_with fail
 clear y0 y8 y9;go_loopw [19] (fun iv wr=>∃ i obi,i≤M∧iv=.int .i64 (i:Nat)∧Bld 54 B b obi wr∧Wrote B b w wr∧Hid (obi++rowJ false (decide (i=0)) (ns.drop i) (ks.drop i)=ob++([op]++rowJ false true ns ks))) (fun iv _=>M - (intOf iv).toNat)
 case atStart=>exact⟨0,_,by omega,rfl,hb1,hw1,by show _=_;rw[List.drop_zero,List.drop_zero,List.append_assoc];rfl⟩
 case round =>
  clear hb1 hw1;obtain⟨i,obi,hi,rfl,hb,hwr,heq⟩:=hrel;obtain⟨y0,y8,y9⟩:=HKx.out _ (below_wrote hu huw hwr);have htot:(ob++([op]++rowJ false true ns ks)).length≤90000000 - 1:=by simp only[List.length_append,List.length_cons,List.length_nil];omega
  by_cases hlt:i<M
  ·have t0:decide ((i:Int)<(M:Int))=true:=by simp;omega
   have b1:(0:Int)≤(i:Int):=by omega
   have b2:(i:Int)<(M:Int):=by omega
   by_cases hi0:i=0
   ·have t1:decide ((0:Int)<(i:Int))=false:=by simp;omega
    have t1':¬ 0<i:=by omega
    have hJ:=rowJ_f0 (ns:=ns) (ts:=ks) (i:=i) (by rw[HM.out];exact hlt) hi0;rw[HKt.out i hlt]at hJ;have htl:=congrArg List.length heq.out;rw[hJ]at htl;simp only[List.length_append,List.length_cons,List.length_nil]at htl;have HJ:=zh hJ;have HL:=zh htl;have hi0':i+1≠0:=by omega
    clear hJ htl hi0;obtain⟨g',o',rfl,hg',hv⟩:=HKid.out i hlt;have HC:=zh (ih (kids.getD i noET) far g' (o'+i*10) B b obi u wr (by have:=HL.out;first|omega|(simp only[List.length_append,List.length_cons,List.length_nil];omega)) hu (below_wrote hu huw hwr) hE hb hv (HR.out i hlt))
    have HRw2:=zh hwr;clear hb hv hwr;go_wp2_with fail
    refine(HC.out).mono ?_;rintro e w7 ⟨rfl,hb7,hw7⟩;go_wp2_with fail
    go_roundw
    case rel=>exact⟨i+1,_,by omega,by go_num,hb7,HRw2.out.trans hw7,by show _=_;rw[←heq.out,HJ.out,decide_eq_false hi0'];simp only[List.append_assoc]⟩
    case measure=>simp[intOf];omega
   ·have t1:decide ((0:Int)<(i:Int))=true:=by simp;omega
    have t1':0<i:=by omega
    have hJ:=rowJ_f1 (ns:=ns) (ts:=ks) (i:=i) (by rw[HM.out];exact hlt) hi0;rw[HKt.out i hlt]at hJ;have htl:=congrArg List.length heq.out;rw[hJ]at htl;simp only[List.length_append,List.length_cons,List.length_nil]at htl;have HJ:=zh hJ;have HL:=zh htl;have hi0':i+1≠0:=by omega
    clear hJ htl hi0;have HWc:=zh (show Calls Tryz.prog 48 #[.pointer (some ⟨b,0,none⟩),.int .u8 44] wr _ from hb.write bt_pp (by have:=HL.out;omega) 44);clear hb;go_wp2_with fail
    refine(HWc.out).mono ?_;rintro e w3 ⟨rfl,hb,hw3⟩;replace hwr:=hwr.trans hw3;obtain⟨y0,y8,y9⟩:=HKx.out _ (below_wrote hu huw hwr);obtain⟨g',o',rfl,hg',hv⟩:=HKid.out i hlt;have HC:=zh (ih (kids.getD i noET) far g' (o'+i*10) B b (obi++[44]) u w3 (by have:=HL.out;first|omega|(simp only[List.length_append,List.length_cons,List.length_nil];omega)) hu (below_wrote hu huw hwr) hE hb hv (HR.out i hlt))
    have HRw2:=zh hwr;clear hb hv hwr;go_wp2_with fail
    refine(HC.out).mono ?_;rintro e w7 ⟨rfl,hb7,hw7⟩;go_wp2_with fail
    go_roundw
    case rel=>exact⟨i+1,_,by omega,by go_num,hb7,HRw2.out.trans hw7,by show _=_;rw[←heq.out,HJ.out,decide_eq_false hi0'];simp only[List.append_assoc]⟩
    case measure=>simp[intOf];omega
  ·have t0:decide ((i:Int)<(M:Int))=false:=by simp;omega
   have hJ:=rowJ_end (named:=false) (f:=decide (i=0)) (ns:=ns.drop i) (ts:=ks) (i:=i) (by rw[HM.out];omega);have he:=heq.out;rw[hJ,List.append_nil]at he;have HX:=zh he;have HWe:=zh (show Calls Tryz.prog 44 #[.pointer (some ⟨b,0,none⟩),.string ⟨#[cl]⟩] wr _ from hb.writeS bt_pp [cl] (by rw[he];simp only[List.length_cons,List.length_nil];omega));clear hJ he hb;go_wp2_with fail
   refine(HWe.out).mono ?_;rintro e w5 ⟨rfl,hb5,hw5⟩;go_wp2_with fail
   go_end0;exact⟨rfl,by rw[HX.out]at hb5;simpa using hb5,hwr.trans hw5⟩
theorem prow_true (d:Nat) (ih:PE d) (x:ET) (far g o B b:Nat) (op cl:UInt8) (ob:List UInt8) (u w:World) (hl:ob.length+([op]++rowJ true true x.names (textEL x.kids)++[cl]).length≤90000000) (hu:u.heap.size≤B) (huw:Below u.heap.size u w) (hE:Env u) (hb:Bld 54 B b ob w)
  (hx:PtrE u (d+1) x g o) (hr:rightEL x.kids far=true) (t17:(x.kind==17)=true) (hnk:x.names.length=x.kids.length) :
  Calls Tryz.prog 46 #[.pointer (some ⟨b,0,none⟩),.pointer (some ⟨g,o,none⟩),.string ⟨#[op]⟩,.string ⟨#[cl]⟩] w fun e w'=>e=.returned (.tuple #[])∧Bld 54 B b (ob++([op]++rowJ true true x.names (textEL x.kids)++[cl])) w'∧Wrote B b w w':=by
 obtain⟨qn,qi,pn,p,kcap,hx'⟩:=hx.open
 have hg:=hx'.lt;obtain⟨np,ncap,rfl⟩:=hx'.strs.lenOf;have hkx:=fun w' (h:Below u.heap.size u w')=>(show w'.cell? ⟨g,o,none⟩=some (.int .i64 x.kind)∧w'.cell? ⟨g,o+8,none⟩=some (.slice np x.names.length ncap)∧w'.cell? ⟨g,o+9,none⟩=some (.slice p x.kids.length kcap) from⟨(h.cell (p:=⟨g,o,none⟩) hg).trans hx'.c0,(h.cell (p:=⟨g,o+8,none⟩) hg).trans hx'.c8,(h.cell (p:=⟨g,o+9,none⟩) hg).trans hx'.c9⟩)
 have HKid:=zh (fun i (hi:i<x.kids.length)=>hx'.kid i hi);have HR:=zh (fun i (hi:i<x.kids.length)=>rightEL_at hr hi);have hns:∀ i,i<x.kids.length→∃ g off,np=some ⟨g,off,none⟩∧g<u.heap.size∧∀ j,j<x.kids.length→u.cell? ⟨g,off+j,none⟩=some (.string ⟨(x.names.getD j []).toArray⟩):=by
  obtain⟨_,_,h3⟩:=hx'.strs;rcases h3 with ⟨h3,p,c,hp⟩|⟨g,off,cap,hp,hg,hc⟩
  ·intro i hi;rw[←hnk,h3]at hi;simp at hi
  ·cases hp
   exact fun i hi=>⟨g,off,rfl,hg,fun j hj=>hc j (by rw[hnk];exact hj)⟩
 rw[hnk]at hkx;have HNs:=zh hns;clear hns hnk;have HKx:=zh hkx;have hmany:=hx'.many;have hkl:=textEL_len x.kids;have HKt:=zh (fun i hi=>textEL_getD x.kids i hi);clear hx hx' hr hkx;generalize textEL x.kids=ks at *;generalize x.kids=kids at *;generalize hns2:x.names=ns at *;generalize x.kind=K at *;generalize hM:kids.length=M at *;have HM:=zh hkl;clear hM hkl hns2;simp only[List.length_append,List.length_cons,List.length_nil]at hl;have HO:=zh (show Calls Tryz.prog 44 #[.pointer (some ⟨b,0,none⟩),.string ⟨#[op]⟩] w _ from hb.writeS bt_pp [op] (by simp only[List.length_cons,List.length_nil];omega));clear hb;go_in;go_wp2_with fail
 refine(HO.out).mono ?_;rintro e w1 ⟨rfl,hb1,hw1⟩;obtain⟨y0,y8,y9⟩:=HKx.out _ (below_wrote hu huw hw1);go_wp2_with fail
 clear y0 y8 y9;go_loopw [19] (fun iv wr=>∃ i obi,i≤M∧iv=.int .i64 (i:Nat)∧Bld 54 B b obi wr∧Wrote B b w wr∧Hid (obi++rowJ true (decide (i=0)) (ns.drop i) (ks.drop i)=ob++([op]++rowJ true true ns ks))) (fun iv _=>M - (intOf iv).toNat)
 case atStart=>exact⟨0,_,by omega,rfl,hb1,hw1,by show _=_;rw[List.drop_zero,List.drop_zero,List.append_assoc];rfl⟩
 case round =>
  clear hb1 hw1;obtain⟨i,obi,hi,rfl,hb,hwr,heq⟩:=hrel;obtain⟨y0,y8,y9⟩:=HKx.out _ (below_wrote hu huw hwr);have htot:(ob++([op]++rowJ true true ns ks)).length≤90000000 - 1:=by simp only[List.length_append,List.length_cons,List.length_nil];omega
  by_cases hlt:i<M
  ·have t0:decide ((i:Int)<(M:Int))=true:=by simp;omega
   have b1:(0:Int)≤(i:Int):=by omega
   have b2:(i:Int)<(M:Int):=by omega
   by_cases hi0:i=0
   ·have t1:decide ((0:Int)<(i:Int))=false:=by simp;omega
    have t1':¬ 0<i:=by omega
    have hJ:=rowJ_t0 (ns:=ns) (ts:=ks) (i:=i) (by rw[HM.out];exact hlt) hi0;rw[HKt.out i hlt]at hJ;have htl:=congrArg List.length heq.out;rw[hJ]at htl;simp only[List.length_append,List.length_cons,List.length_nil]at htl;have HJ:=zh hJ;have HL:=zh htl;have hi0':i+1≠0:=by omega
    clear hJ htl hi0;have HWn:=zh (fun w' (hbw:Below wr.heap.size wr w')=>(hb.below hbw).writeS bt_pp (ns.getD i []++[58]) (by have:=HL.out;first|omega|(simp only[List.length_append,List.length_cons,List.length_nil];omega)))
    obtain⟨gn,off,rfl,hgn,hcn⟩:=HNs.out i hlt;have z0:=(below_wrote hu huw hwr).cell (p:=⟨gn,off+i,none⟩) hgn;rw[hcn i hlt]at z0;have HKz:=zh (fun w' (hw:Wrote B b wr w')=>(show w'.cell? ⟨g,o+8,none⟩=some (.slice (some ⟨gn,off,none⟩) M ncap)∧w'.cell? ⟨gn,off+i,none⟩=some (.string ⟨(ns.getD i []).toArray⟩) from⟨(HKx.out _ (below_wrote hu huw (hwr.trans hw))).2.1,((below_wrote hu huw (hwr.trans hw)).cell (p:=⟨gn,off+i,none⟩) hgn).trans (hcn i hlt)⟩));have HRw:=zh hwr;have hsum:∀ w,(Op.stringOp .add ⟨(ns.getD i []).toArray⟩ ⟨#[58]⟩).run Tryz.prog w=.ok (.string ⟨(ns.getD i []++[58]).toArray⟩) w:=fun w=>by
     rw[run_string_add_sum w _ _ (by have:=HL.out;show(ns.getD i []).toArray.size+1≤_;rw[List.size_toArray];omega),←ba_cat]
    clear hb hcn hwr;generalize hnm:ns.getD i []=nm at *;go_wp2_with fail
    go_region_held3 (fun w'=>w'.cell? ⟨g,o+8,none⟩=some (.slice (some ⟨gn,off,none⟩) M ncap)∧w'.cell? ⟨gn,off+i,none⟩=some (.string ⟨nm.toArray⟩)) (first|with_reducible exact⟨y8,z0⟩|with_reducible exact HKz.out _ (wrote_drew hw5)|go_keep) ((go_at_call 44;(with_reducible refine(HWn.out _ (Below.refl _ _).drew).mono ?_);rintro e w5 ⟨rfl,hb,hw5⟩))
    have hwr:=HRw.out.trans (wrote_drew hw5);obtain⟨y0,y8,y9⟩:=HKx.out _ (below_wrote hu huw hwr);clear hsum z0;obtain⟨g',o',rfl,hg',hv⟩:=HKid.out i hlt;have HC:=zh (ih (kids.getD i noET) far g' (o'+i*10) B b (obi++(nm++[58])) u w5 (by have:=HL.out;first|omega|(simp only[List.length_append,List.length_cons,List.length_nil];omega)) hu (below_wrote hu huw hwr) hE hb hv (HR.out i hlt))
    have HRw2:=zh hwr;clear hb hv hwr;go_wp2_with fail
    refine(HC.out).mono ?_;rintro e w7 ⟨rfl,hb7,hw7⟩;go_wp2_with fail
    go_roundw
    case rel=>exact⟨i+1,_,by omega,by go_num,hb7,HRw2.out.trans hw7,by show _=_;rw[←heq.out,HJ.out,decide_eq_false hi0'];simp only[List.append_assoc]⟩
    case measure=>simp[intOf];omega
   ·have t1:decide ((0:Int)<(i:Int))=true:=by simp;omega
    have t1':0<i:=by omega
    have hJ:=rowJ_t1 (ns:=ns) (ts:=ks) (i:=i) (by rw[HM.out];exact hlt) hi0;rw[HKt.out i hlt]at hJ;have htl:=congrArg List.length heq.out;rw[hJ]at htl;simp only[List.length_append,List.length_cons,List.length_nil]at htl;have HJ:=zh hJ;have HL:=zh htl;have hi0':i+1≠0:=by omega
    clear hJ htl hi0;have HWc:=zh (show Calls Tryz.prog 48 #[.pointer (some ⟨b,0,none⟩),.int .u8 44] wr _ from hb.write bt_pp (by have:=HL.out;omega) 44);clear hb;go_wp2_with fail
    refine(HWc.out).mono ?_;rintro e w3 ⟨rfl,hb,hw3⟩;replace hwr:=hwr.trans hw3;obtain⟨y0,y8,y9⟩:=HKx.out _ (below_wrote hu huw hwr);have HWn:=zh (fun w' (hbw:Below w3.heap.size w3 w')=>(hb.below hbw).writeS bt_pp (ns.getD i []++[58]) (by have:=HL.out;first|omega|(simp only[List.length_append,List.length_cons,List.length_nil];omega)))
    obtain⟨gn,off,rfl,hgn,hcn⟩:=HNs.out i hlt;have z0:=(below_wrote hu huw hwr).cell (p:=⟨gn,off+i,none⟩) hgn;rw[hcn i hlt]at z0;have HKz:=zh (fun w' (hw:Wrote B b w3 w')=>(show w'.cell? ⟨g,o+8,none⟩=some (.slice (some ⟨gn,off,none⟩) M ncap)∧w'.cell? ⟨gn,off+i,none⟩=some (.string ⟨(ns.getD i []).toArray⟩) from⟨(HKx.out _ (below_wrote hu huw (hwr.trans hw))).2.1,((below_wrote hu huw (hwr.trans hw)).cell (p:=⟨gn,off+i,none⟩) hgn).trans (hcn i hlt)⟩));have HRw:=zh hwr;have hsum:∀ w,(Op.stringOp .add ⟨(ns.getD i []).toArray⟩ ⟨#[58]⟩).run Tryz.prog w=.ok (.string ⟨(ns.getD i []++[58]).toArray⟩) w:=fun w=>by
     rw[run_string_add_sum w _ _ (by have:=HL.out;show(ns.getD i []).toArray.size+1≤_;rw[List.size_toArray];omega),←ba_cat]
    clear hb hcn hwr;generalize hnm:ns.getD i []=nm at *;go_wp2_with fail
    go_region_held3 (fun w'=>w'.cell? ⟨g,o+8,none⟩=some (.slice (some ⟨gn,off,none⟩) M ncap)∧w'.cell? ⟨gn,off+i,none⟩=some (.string ⟨nm.toArray⟩)) (first|with_reducible exact⟨y8,z0⟩|with_reducible exact HKz.out _ (wrote_drew hw5)|go_keep) ((go_at_call 44;(with_reducible refine(HWn.out _ (Below.refl _ _).drew).mono ?_);rintro e w5 ⟨rfl,hb,hw5⟩))
    have hwr:=HRw.out.trans (wrote_drew hw5);obtain⟨y0,y8,y9⟩:=HKx.out _ (below_wrote hu huw hwr);clear hsum z0;obtain⟨g',o',rfl,hg',hv⟩:=HKid.out i hlt;have HC:=zh (ih (kids.getD i noET) far g' (o'+i*10) B b ((obi++[44])++(nm++[58])) u w5 (by have:=HL.out;first|omega|(simp only[List.length_append,List.length_cons,List.length_nil];omega)) hu (below_wrote hu huw hwr) hE hb hv (HR.out i hlt))
    have HRw2:=zh hwr;clear hb hv hwr;go_wp2_with fail
    refine(HC.out).mono ?_;rintro e w7 ⟨rfl,hb7,hw7⟩;go_wp2_with fail
    go_roundw
    case rel=>exact⟨i+1,_,by omega,by go_num,hb7,HRw2.out.trans hw7,by show _=_;rw[←heq.out,HJ.out,decide_eq_false hi0'];simp only[List.append_assoc]⟩
    case measure=>simp[intOf];omega
  ·have t0:decide ((i:Int)<(M:Int))=false:=by simp;omega
   have hJ:=rowJ_end (named:=true) (f:=decide (i=0)) (ns:=ns.drop i) (ts:=ks) (i:=i) (by rw[HM.out];omega);have he:=heq.out;rw[hJ,List.append_nil]at he;have HX:=zh he;have HWe:=zh (show Calls Tryz.prog 44 #[.pointer (some ⟨b,0,none⟩),.string ⟨#[cl]⟩] wr _ from hb.writeS bt_pp [cl] (by rw[he];simp only[List.length_cons,List.length_nil];omega));clear hJ he hb;go_wp2_with fail
   refine(HWe.out).mono ?_;rintro e w5 ⟨rfl,hb5,hw5⟩;go_wp2_with fail
   go_end0;exact⟨rfl,by rw[HX.out]at hb5;simpa using hb5,hwr.trans hw5⟩
end
end Go.Proofs.YtaaaaggmhjhkkaaGreatDoor
