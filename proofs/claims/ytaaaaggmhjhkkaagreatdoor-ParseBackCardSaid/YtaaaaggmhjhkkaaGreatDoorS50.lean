/-
  Hg in one text.
-/
import Derived.Test.YtaaaaggmhjhkkaaGreatDoorS38
import Derived.Test.YtaaaaggmhjhkkaaGreatDoorS39
import Derived.Test.YtaaaaggmhjhkkaaGreatDoorS45
import Derived.Test.YtaaaaggmhjhkkaaGreatDoorS48
import Derived.Test.YtaaaaggmhjhkkaaGreatDoorS49
import Derived.Test.YtaaaaggmhjhkkaaGreatDoorCl
set_option maxRecDepth 100000
set_option maxHeartbeats 1000000
namespace Go.Proofs.YtaaaaggmhjhkkaaGreatDoor
open Go.RowKit
theorem back_any (d:Nat) (x:ET) (cs:Array Value) (w:World) (hEn:Env w) (h:ExAt' w d x cs):Calls Tryz.prog 4 #[.agg cs] w (Gives (.bool true) w):=by
 have hsf:∀ (a:Addr) (x:Nat) (m:Mode) (w:World),(store a (.float .f64 x) m).run Tryz.prog w=stored Tryz.prog w a (.float .f64 x) m:=fun a x m w=>run_store _ w a _ m rfl
 have hin:=h.inE;obtain⟨q1,r1,s1,u1,n1,m1,k1,l1,rfl⟩:=h.form4;have hB:Below w.heap.size w (w.alloc (.cells #[.int .i64 x.kind,.string ⟨x.str.toArray⟩,.int .i64 x.v.kind,.int .i64 x.v.num,.float .f64 x.v.flt,.string ⟨x.v.str.toArray⟩,.slice q1 x.v.names.length r1,.slice s1 x.v.items.length u1,.slice n1 x.names.length m1,.slice k1 x.kids.length l1] 29)):=(Below.refl _ _).alloc (Nat.le_refl _) _;have hnew:=heap_alloc_new w (.cells #[.int .i64 x.kind,.string ⟨x.str.toArray⟩,.int .i64 x.v.kind,.int .i64 x.v.num,.float .f64 x.v.flt,.string ⟨x.v.str.toArray⟩,.slice q1 x.v.names.length r1,.slice s1 x.v.items.length u1,.slice n1 x.names.length m1,.slice k1 x.kids.length l1] 29);have hx1:=h.keptA hB;have hE1:=hEn.below hB;obtain⟨W1,hW⟩:∃ W1,W1=w.alloc (.cells #[.int .i64 x.kind,.string ⟨x.str.toArray⟩,.int .i64 x.v.kind,.int .i64 x.v.num,.float .f64 x.v.flt,.string ⟨x.v.str.toArray⟩,.slice q1 x.v.names.length r1,.slice s1 x.v.items.length u1,.slice n1 x.names.length m1,.slice k1 x.kids.length l1] 29):=⟨_,rfl⟩;rw[←hW]at hB hnew hx1 hE1;have HW:=zh hW.symm;have HNew:=zh hnew;have HLt:=zh (lt_of_block hnew);have HUp:=zh (fun w' (hb:Below W1.heap.size W1 w')=>(show Below w.heap.size w w' from hB.trans (hb.mono hB.size)));have HAw:=zh (fun w' (hb:Below W1.heap.size W1 w')=>awake8_any w' (hE1.below hb));have HSm:=zh (fun w' (hb:Below W1.heap.size W1 w')=>rsmallE_any d x _ w' (hx1.keptA hb));have HRt:=zh (fun w' (hb:Below W1.heap.size W1 w')=>rRight8_any d x _ w' (hx1.keptA hb));have HTx:=zh (fun w' (hb:Below W1.heap.size W1 w')=>pText_any d x _ w' (hE1.below hb) (hx1.keptA hb));have HPa:=zh (fun w' (hb:Below W1.heap.size W1 w')=>pParse_any ⟨(textE x).toArray⟩ w' (hE1.below hb));have HX:=zh (fun w' (hb:Below W1.heap.size W1 w')=>hx1.keptA hb);clear hW hnew h hx1 hE1 hB;cases hs:smallE x
 ·rw[hs]at HSm;clear hs;go_in;go_upto_region 1 with (fail)
  rw[HW.out];obtain⟨a0,a1,a2,a3,a4,a5,a6,a7,a8,a9⟩:=cells10 HNew.out;go_wp2_with fail
  refine(HAw.out _ (Below.refl W1.heap.size W1)).mono ?_;rintro e w2 ⟨rfl,hc⟩;have hb2:=below_tr' (Below.refl W1.heap.size W1) hc;clear hc;clear a0 a1 a2 a3 a4 a5 a6 a7 a8 a9;have hn2:=(hb2.block _ HLt.out).trans HNew.out;obtain⟨a0,a1,a2,a3,a4,a5,a6,a7,a8,a9⟩:=cells10 hn2;clear hn2;go_wp2_with fail
  refine(HSm.out _ hb2).mono ?_;rintro e w3 ⟨rfl,hc⟩;have hb3:=below_tr' hb2 hc;clear hc;clear a0 a1 a2 a3 a4 a5 a6 a7 a8 a9;have hn3:=(hb3.block _ HLt.out).trans HNew.out;obtain⟨a0,a1,a2,a3,a4,a5,a6,a7,a8,a9⟩:=cells10 hn3;clear hn3;go_wp2_with fail
  refine(HAw.out _ hb3).mono ?_;rintro e w4 ⟨rfl,hc⟩;go_wp2_with fail
  go_ret;exact⟨ret_val rfl,HUp.out _ (below_tr' hb3 hc)⟩
 ·rw[hs]at HSm;clear hs;cases hr:rightEx x
  ·rw[hr]at HRt;clear hr;go_in;go_upto_region 1 with (fail)
   rw[HW.out];obtain⟨a0,a1,a2,a3,a4,a5,a6,a7,a8,a9⟩:=cells10 HNew.out;go_wp2_with fail
   refine(HAw.out _ (Below.refl W1.heap.size W1)).mono ?_;rintro e w2 ⟨rfl,hc⟩;have hb2:=below_tr' (Below.refl W1.heap.size W1) hc;clear hc;clear a0 a1 a2 a3 a4 a5 a6 a7 a8 a9;have hn2:=(hb2.block _ HLt.out).trans HNew.out;obtain⟨a0,a1,a2,a3,a4,a5,a6,a7,a8,a9⟩:=cells10 hn2;clear hn2;go_wp2_with fail
   refine(HSm.out _ hb2).mono ?_;rintro e w3 ⟨rfl,hc⟩;have hb3:=below_tr' hb2 hc;clear hc;clear a0 a1 a2 a3 a4 a5 a6 a7 a8 a9;have hn3:=(hb3.block _ HLt.out).trans HNew.out;obtain⟨a0,a1,a2,a3,a4,a5,a6,a7,a8,a9⟩:=cells10 hn3;clear hn3;go_wp2_with fail
   refine(HRt.out _ hb3).mono ?_;rintro e w4 ⟨rfl,hc⟩;have hb4:=below_tr' hb3 hc;clear hc;clear a0 a1 a2 a3 a4 a5 a6 a7 a8 a9;have hn4:=(hb4.block _ HLt.out).trans HNew.out;obtain⟨a0,a1,a2,a3,a4,a5,a6,a7,a8,a9⟩:=cells10 hn4;clear hn4;go_wp2_with fail
   refine(HAw.out _ hb4).mono ?_;rintro e w5 ⟨rfl,hc⟩;go_wp2_with fail
   go_ret;exact⟨ret_val rfl,HUp.out _ (below_tr' hb4 hc)⟩
  ·rw[hr]at HRt;have hT:textR x=.tuple #[.string ⟨(textE x).toArray⟩,.int .i64 0]:=by unfold textR;rw[if_pos hr]
   rw[hT]at HTx;clear hT;have hbk:=fun hl=>back_plain hr hin hl
   have e0:(⟨(textE x).toArray⟩:ByteArray).data.toList=textE x:=rfl;rw[e0]at HPa;clear e0 hr;have hsz:(⟨(textE x).toArray⟩:ByteArray).size=(textE x).length:=by simp[ByteArray.size]
   generalize (⟨(textE x).toArray⟩:ByteArray)=S at *;rw[←hsz]at hbk;generalize parseX (textE x)=pp at *;have HBk:=zh hbk;clear hbk hsz hin;go_in;go_upto_region 1 with (fail)
   rw[HW.out];obtain⟨a0,a1,a2,a3,a4,a5,a6,a7,a8,a9⟩:=cells10 HNew.out;go_wp2_with fail
   refine(HAw.out _ (Below.refl W1.heap.size W1)).mono ?_;rintro e w2 ⟨rfl,hc⟩;have hb2:=below_tr' (Below.refl W1.heap.size W1) hc;clear hc;clear a0 a1 a2 a3 a4 a5 a6 a7 a8 a9;have hn2:=(hb2.block _ HLt.out).trans HNew.out;obtain⟨a0,a1,a2,a3,a4,a5,a6,a7,a8,a9⟩:=cells10 hn2;clear hn2;go_wp2_with fail
   refine(HSm.out _ hb2).mono ?_;rintro e w3 ⟨rfl,hc⟩;have hb3:=below_tr' hb2 hc;clear hc;clear a0 a1 a2 a3 a4 a5 a6 a7 a8 a9;have hn3:=(hb3.block _ HLt.out).trans HNew.out;obtain⟨a0,a1,a2,a3,a4,a5,a6,a7,a8,a9⟩:=cells10 hn3;clear hn3;go_wp2_with fail
   refine(HRt.out _ hb3).mono ?_;rintro e w4 ⟨rfl,hc⟩;have hb4:=below_tr' hb3 hc;clear hc;clear a0 a1 a2 a3 a4 a5 a6 a7 a8 a9;have hn4:=(hb4.block _ HLt.out).trans HNew.out;obtain⟨a0,a1,a2,a3,a4,a5,a6,a7,a8,a9⟩:=cells10 hn4;clear hn4;go_wp2_with fail
   refine(HTx.out _ hb4).mono ?_;rintro e w5 ⟨rfl,hc⟩;have hb5:=below_tr' hb4 hc;clear hc;clear a0 a1 a2 a3 a4 a5 a6 a7 a8 a9;have hn5:=(hb5.block _ HLt.out).trans HNew.out;obtain⟨a0,a1,a2,a3,a4,a5,a6,a7,a8,a9⟩:=cells10 hn5;clear hn5;go_wp2_with fail
   refine(HPa.out _ hb5).mono ?_;rintro e w6 ⟨d',cs',rfl,hy,hc⟩;have hb6:=below_tr' hb5 hc;clear hc;obtain⟨y,at0,e0⟩:=pp;obtain⟨q2,r2,s2,u2,n2,m2,k2,l2,rfl⟩:=hy.form4;go_upto_region 7 with (fail)
   have hn7:=heap_alloc_new w6 (.cells #[.int .i64 y.kind,.string ⟨y.str.toArray⟩,.int .i64 y.v.kind,.int .i64 y.v.num,.float .f64 y.v.flt,.string ⟨y.v.str.toArray⟩,.slice q2 y.v.names.length r2,.slice s2 y.v.items.length u2,.slice n2 y.names.length m2,.slice k2 y.kids.length l2] 29);have hA:Below w6.heap.size w6 (w6.alloc (.cells #[.int .i64 y.kind,.string ⟨y.str.toArray⟩,.int .i64 y.v.kind,.int .i64 y.v.num,.float .f64 y.v.flt,.string ⟨y.v.str.toArray⟩,.slice q2 y.v.names.length r2,.slice s2 y.v.items.length u2,.slice n2 y.names.length m2,.slice k2 y.kids.length l2] 29)):=(Below.refl _ _).alloc (Nat.le_refl _) _;generalize w6.alloc (.cells #[.int .i64 y.kind,.string ⟨y.str.toArray⟩,.int .i64 y.v.kind,.int .i64 y.v.num,.float .f64 y.v.flt,.string ⟨y.v.str.toArray⟩,.slice q2 y.v.names.length r2,.slice s2 y.v.items.length u2,.slice n2 y.names.length m2,.slice k2 y.kids.length l2] 29)=W7 at *;have hb7:=below_tr' hb6 hA;have hy7:=hy.at'.keptA hA;clear hy hA;clear a0 a1 a2 a3 a4 a5 a6 a7 a8 a9;have hnx:=(hb7.block _ HLt.out).trans HNew.out;obtain⟨a0,a1,a2,a3,a4,a5,a6,a7,a8,a9⟩:=cells10 hnx;obtain⟨b0,b1,b2,b3,b4,b5,b6,b7,b8,b9⟩:=cells10 hn7;clear hnx hn7;by_cases hl:2000<S.size
   ·have t1:decide ((2000:Int)<(S.size:Int))=true:=by simp;omega
    clear hy7;go_wp2_with fail
    go_ret;exact⟨ret_val rfl,HUp.out _ hb7⟩
   ·have t1:decide ((2000:Int)<(S.size:Int))=false:=by simp;omega
    have t1':¬ 2000<S.size:=hl;have hk:=HBk.out (by omega);have hk1:y=canE x:=congrArg (fun p=>p.1) hk;have hk2:e0=0:=congrArg (fun p=>p.2.2) hk;subst hk2;have HS:=zh (rsame8_any d d' x y _ _ W7 (HX.out _ hb7) hy7 (by rw[hk1,canE_canE]));clear hk hk1 hy7;go_wp2_with fail
    refine(HS.out).mono ?_;rintro e w8 ⟨rfl,hc⟩;go_wp2_with fail
    go_ret;exact⟨ret_val rfl,HUp.out _ (below_tr' hb7 hc)⟩
end Go.Proofs.YtaaaaggmhjhkkaaGreatDoor
