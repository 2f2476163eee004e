/-
  Hh, Ho in one text.
-/
import Derived.Test.YtaaaaggmhjhkkaaGreatDoorS36
import Derived.Test.YtaaaaggmhjhkkaaGreatDoorS41
import Derived.Test.YtaaaaggmhjhkkaaGreatDoorS45
import Derived.Test.YtaaaaggmhjhkkaaGreatDoorS49
import Derived.Test.YtaaaaggmhjhkkaaGreatDoorS52
import Derived.Test.YtaaaaggmhjhkkaaGreatDoorS55
import Derived.Test.YtaaaaggmhjhkkaaGreatDoorCl
set_option maxRecDepth 100000
set_option maxHeartbeats 4000000
namespace Go.Proofs.YtaaaaggmhjhkkaaGreatDoor
section
open Go
/-- a constant's text is parsed as that constant -/
theorem const_plain {v:VT} (h:rightEx (conE v)=true) (iv:inV v):parseX (textC v)=(conE (canV v),0,0):=by
 have hi:inE (conE v):=by unfold conE;rw[inE,inEL];exact⟨iv,trivial⟩
 have e1:textE (conE v)=textC v:=textE_1 rfl;have e2:canE (conE v)=conE (canV v):=by unfold conE;rw[canE,canEL]
 have e3:szE (conE v)=1:=by unfold conE;rw[szE,szEL]
 have hr:=h;unfold rightEx at hr;rw[Bool.and_eq_true]at hr;have hl:=text_len (conE v) 12 hr.2 hi;rw[←e1,←e2];exact back_plain h hi (by omega)
theorem const_of {v:VT} (h:rightEx (conE v)=true):constB v=true:=by
 unfold rightEx at h;rw[Bool.and_eq_true]at h;have:=(right_parts h.2).2.2.1;rw[if_pos (show(conE v).kind=1 from rfl)]at this;exact this
end
section
open Go.RowKit
theorem con_at {w:World} {d:Nat} {v:VT} {q0 s0:Option Addr} {r0 u0:Nat} (h:ValAt w d v #[.int .i64 v.kind,.int .i64 v.num,.float .f64 v.flt,.string ⟨v.str.toArray⟩,.slice q0 v.names.length r0,.slice s0 v.items.length u0]):ExAt' w 1 (conE v) #[.int .i64 1,.string ⟨#[]⟩,.int .i64 v.kind,.int .i64 v.num,.float .f64 v.flt,.string ⟨v.str.toArray⟩,.slice q0 v.names.length r0,.slice s0 v.items.length u0,.slice none 0 0,.slice none 0 0]:=by
 cases d with
 | zero=>exact h.elim
 | succ d=>exact⟨_,_,_,_,rfl,(show(-9223372036854775808:Int)≤1∧(1:Int)≤9223372036854775807 by decide),zero_le,⟨d,h.inT⟩,StrsIn.nil _ _,zero_le,.inl ⟨rfl,_,_,rfl⟩⟩
theorem inner_any (s:ByteArray) (d:Nat) (v:VT) (cs:Array Value) (w:World) (hEn:Env w) (h:ValAt w d v cs) :
  Calls Tryz.prog 5 #[.string s,.agg cs] w (Gives (.bool true) w):=by
 have hsf:∀ (a:Addr) (x:Nat) (m:Mode) (w:World),(store a (.float .f64 x) m).run Tryz.prog w=stored Tryz.prog w a (.float .f64 x) m:=fun a x m w=>run_store _ w a _ m rfl
 have hiv:=zh h.inV;obtain⟨q0,r0,s0,u0,rfl⟩:=h.sixS;have hB:=(Below.refl w.heap.size w).alloc (Nat.le_refl _) (.cells #[.int .i64 v.kind,.int .i64 v.num,.float .f64 v.flt,.string ⟨v.str.toArray⟩,.slice q0 v.names.length r0,.slice s0 v.items.length u0] 26);have hnew:=heap_alloc_new w (.cells #[.int .i64 v.kind,.int .i64 v.num,.float .f64 v.flt,.string ⟨v.str.toArray⟩,.slice q0 v.names.length r0,.slice s0 v.items.length u0] 26);have hv1:=h.kept hB;have hE1:=hEn.below hB;obtain⟨W1,hW⟩:∃ W1,W1=w.alloc (.cells #[.int .i64 v.kind,.int .i64 v.num,.float .f64 v.flt,.string ⟨v.str.toArray⟩,.slice q0 v.names.length r0,.slice s0 v.items.length u0] 26):=⟨_,rfl⟩;rw[←hW]at hB hnew hv1 hE1;have HW:=zh hW.symm;have HUp:=zh (up9 hB);have HAw:=zh (fun w' (hb:Below W1.heap.size W1 w')=>awake8_any w' (hE1.below hb));have HV:=zh (fun w' (hb:Below W1.heap.size W1 w')=>(show ValAt w' d v _ from hv1.kept hb));have HSm:=zh (fun w' (hb:Below W1.heap.size W1 w')=>rsmall_any d v _ w' (hv1.kept hb));have HTc:=zh (fun(hc:constB v=true) w' (hb:Below W1.heap.size W1 w')=>rTextC_any d v _ w' (hv1.kept hb) hc);have HPa:=zh (fun s w' (hb:Below W1.heap.size W1 w')=>pParse_any s w' (hE1.below hb));have HS:=zh (fun w' (hb:Below W1.heap.size W1 w')=>cellsO6 ((hb.block _ (lt_of_block hnew)).trans hnew));clear hW hnew h hv1 hE1 hB hEn;by_cases hl:1000<s.size
 ·have t1:decide ((1000:Int)<(s.size:Int))=true:=by simp;omega
  have t1':1000<s.size:=hl;clear hl;go_in;go_upto_region 1 with (fail)
  rw[HW.out];obtain⟨v0,v1,v2,v3,v4,v5⟩:=HS.out _ (Below.refl W1.heap.size W1);go_wp2_with fail
  refine(HAw.out _ (Below.refl W1.heap.size W1)).mono ?_;rintro e w2 ⟨rfl,hc⟩;have hb2:=below_tr' (Below.refl W1.heap.size W1) hc;clear hc;clear v0 v1 v2 v3 v4 v5;obtain⟨v0,v1,v2,v3,v4,v5⟩:=HS.out _ hb2;go_wp2_with fail
  refine(HAw.out _ hb2).mono ?_;rintro e w4 ⟨rfl,hc⟩;go_wp2_with fail
  go_ret;exact⟨ret_val rfl,HUp.out _ (below_tr' hb2 hc)⟩
 ·have t1:decide ((1000:Int)<(s.size:Int))=false:=by simp;omega
  have t1':¬ 1000<s.size:=hl;cases hsm:smallB v
  ·rw[hsm]at HSm;clear hsm hl;go_in;go_upto_region 1 with (fail)
   rw[HW.out];obtain⟨v0,v1,v2,v3,v4,v5⟩:=HS.out _ (Below.refl W1.heap.size W1);go_wp2_with fail
   refine(HAw.out _ (Below.refl W1.heap.size W1)).mono ?_;rintro e w2 ⟨rfl,hc⟩;have hb2:=below_tr' (Below.refl W1.heap.size W1) hc;clear hc;clear v0 v1 v2 v3 v4 v5;obtain⟨v0,v1,v2,v3,v4,v5⟩:=HS.out _ hb2;go_wp2_with fail
   refine(HSm.out _ hb2).mono ?_;rintro e w3 ⟨rfl,hc⟩;have hb3:=below_tr' hb2 hc;clear hc;clear v0 v1 v2 v3 v4 v5;obtain⟨v0,v1,v2,v3,v4,v5⟩:=HS.out _ hb3;go_wp2_with fail
   refine(HAw.out _ hb3).mono ?_;rintro e w4 ⟨rfl,hc⟩;go_wp2_with fail
   go_ret;exact⟨ret_val rfl,HUp.out _ (below_tr' hb3 hc)⟩
  ·rw[hsm]at HSm;clear hsm;obtain⟨l,rfl⟩:∃ l:List UInt8,s=⟨l.toArray⟩:=⟨s.data.toList,by simp⟩;have hll:(⟨l.toArray⟩:ByteArray).size=l.length:=by simp[ByteArray.size]
   have HP1:=fun w' (hb:Below W1.heap.size W1 w')=>HPa.out ⟨l.toArray⟩ w' hb
   have hd1:(⟨l.toArray⟩:ByteArray).data.toList=l:=rfl;rw[hd1]at HP1;have hpp:=fun h=>parse_paren (l:=l) (by omega) h
   obtain⟨C1,hC1⟩:∃ C:ByteArray,C=⟨([40]++l).toArray⟩:=⟨_,rfl⟩;have hs1:∀ w,(Op.stringOp .add ⟨([40]).toArray⟩ ⟨l.toArray⟩).run Tryz.prog w=.ok (.string C1) w:=fun w=>by
    rw[hC1,run_string_add_sum w _ _ (by simp[ByteArray.size];omega),ba_cat]
   obtain⟨C2,hC2⟩:∃ C:ByteArray,C=⟨(([40]++l)++[41]).toArray⟩:=⟨_,rfl⟩;have hs2:∀ w,(Op.stringOp .add C1 ⟨([41]).toArray⟩).run Tryz.prog w=.ok (.string C2) w:=fun w=>by
    rw[hC1];rw[hC2,run_string_add_sum w _ _ (by simp[ByteArray.size];omega),ba_cat]
   have HP2:=fun w' (hb:Below W1.heap.size W1 w')=>HPa.out C2 w' hb
   have hd2:C2.data.toList=40::(l++[41]):=by rw[hC2];simp
   rw[hd2]at HP2;replace HP1:=zh HP1;replace HP2:=zh HP2;clear hC1 hC2 hd1 hd2 hl;generalize hp1:parseX l=p1 at *;generalize hp2:parseX (40::(l++[41]))=p2 at *;clear hp1 hp2;generalize (⟨l.toArray⟩:ByteArray)=T0 at *;clear hll;obtain⟨x,at1,e1⟩:=p1;obtain⟨y,at2,e2⟩:=p2;go_in;go_upto_region 1 with (fail)
   rw[HW.out];obtain⟨v0,v1,v2,v3,v4,v5⟩:=HS.out _ (Below.refl W1.heap.size W1);go_wp2_with fail
   refine(HAw.out _ (Below.refl W1.heap.size W1)).mono ?_;rintro e w2 ⟨rfl,hc⟩;have hb2:=below_tr' (Below.refl W1.heap.size W1) hc;clear hc;clear v0 v1 v2 v3 v4 v5;obtain⟨v0,v1,v2,v3,v4,v5⟩:=HS.out _ hb2;go_wp2_with fail
   refine(HSm.out _ hb2).mono ?_;rintro e w3 ⟨rfl,hc⟩;have hb3:=below_tr' hb2 hc;clear hc;clear v0 v1 v2 v3 v4 v5;obtain⟨v0,v1,v2,v3,v4,v5⟩:=HS.out _ hb3;go_wp2_with fail
   refine(HP1.out _ hb3).mono ?_;rintro e w4 ⟨d1,cs1,rfl,hx,hc⟩;have hb4:=below_tr' hb3 hc;clear hc;clear v0 v1 v2 v3 v4 v5;obtain⟨q1,r1,s1,u1,n1,m1,k1,l1,rfl⟩:=hx.form4;go_upto_region 4 with (fail)
   have hn1:=heap_alloc_new w4 (.cells #[.int .i64 x.kind,.string ⟨x.str.toArray⟩,.int .i64 x.v.kind,.int .i64 x.v.num,.float .f64 x.v.flt,.string ⟨x.v.str.toArray⟩,.slice q1 x.v.names.length r1,.slice s1 x.v.items.length u1,.slice n1 x.names.length m1,.slice k1 x.kids.length l1] 29);have hA:=(Below.refl w4.heap.size w4).alloc (Nat.le_refl _) (.cells #[.int .i64 x.kind,.string ⟨x.str.toArray⟩,.int .i64 x.v.kind,.int .i64 x.v.num,.float .f64 x.v.flt,.string ⟨x.v.str.toArray⟩,.slice q1 x.v.names.length r1,.slice s1 x.v.items.length u1,.slice n1 x.names.length m1,.slice k1 x.kids.length l1] 29);generalize w4.alloc (.cells #[.int .i64 x.kind,.string ⟨x.str.toArray⟩,.int .i64 x.v.kind,.int .i64 x.v.num,.float .f64 x.v.flt,.string ⟨x.v.str.toArray⟩,.slice q1 x.v.names.length r1,.slice s1 x.v.items.length u1,.slice n1 x.names.length m1,.slice k1 x.kids.length l1] 29)=W5 at *;have hb5:=below_tr' hb4 hA;have hx5:=hx.at'.keptA hA;clear hA hx;have hx1:=zh hn1;have hxl:=zh (lt_of_block hn1);have HX5:=zh hx5;clear hn1 hx5;generalize w4.heap.size=G1 at *;go_wp2_with fail
   refine(HP2.out _ hb5).mono ?_;rintro e w6 ⟨d2,cs2,rfl,hy,hc⟩;have hb6:=below_tr' hb5 hc;have hbx:=below_tr' (Below.refl W5.heap.size W5) hc;clear hc;obtain⟨q2,r2,s2,u2,n2,m2,k2,l2,rfl⟩:=hy.form4;go_upto_region 5 with (fail)
   have hn2:=heap_alloc_new w6 (.cells #[.int .i64 y.kind,.string ⟨y.str.toArray⟩,.int .i64 y.v.kind,.int .i64 y.v.num,.float .f64 y.v.flt,.string ⟨y.v.str.toArray⟩,.slice q2 y.v.names.length r2,.slice s2 y.v.items.length u2,.slice n2 y.names.length m2,.slice k2 y.kids.length l2] 29);have hA:=(Below.refl w6.heap.size w6).alloc (Nat.le_refl _) (.cells #[.int .i64 y.kind,.string ⟨y.str.toArray⟩,.int .i64 y.v.kind,.int .i64 y.v.num,.float .f64 y.v.flt,.string ⟨y.v.str.toArray⟩,.slice q2 y.v.names.length r2,.slice s2 y.v.items.length u2,.slice n2 y.names.length m2,.slice k2 y.kids.length l2] 29);generalize w6.alloc (.cells #[.int .i64 y.kind,.string ⟨y.str.toArray⟩,.int .i64 y.v.kind,.int .i64 y.v.num,.float .f64 y.v.flt,.string ⟨y.v.str.toArray⟩,.slice q2 y.v.names.length r2,.slice s2 y.v.items.length u2,.slice n2 y.names.length m2,.slice k2 y.kids.length l2] 29)=W7 at *;have hb7:=below_tr' hb6 hA;have hy7:=hy.at'.keptA hA;have hbx7:=below_tr' hbx hA;clear hA hy hbx;have hnx:=(hbx7.block _ hxl.out).trans hx1.out;obtain⟨a0,a1,a2,a3,a4,a5,a6,a7,a8,a9⟩:=cells10 hnx;obtain⟨b0,b1,b2,b3,b4,b5,b6,b7,b8,b9⟩:=cells10 hn2;clear hnx hn2;go_cut [57] (fun v wx=>v=.bool false∧Below W1.heap.size W1 wx)
   case first =>
    by_cases h0:e1=0
    ·rcases hpp h0 with hq|hq
     ·have hxy:y=x:=congrArg (fun p=>p.1) hq;have he2:e2=0:=congrArg (fun p=>p.2.2) hq;subst h0;subst he2;have HSa:=zh (psame_any _ _ x y _ _ W7 (HX5.out.keptA hbx7) hy7 (by rw[hxy]));clear hpp hq hxy hy7;go_wp2_with fail
      refine(HSa.out).mono ?_;rintro e w8 ⟨rfl,hc⟩;have hb8:=below_tr' hb7 hc;go_wp2_with fail
      go_meet;exact⟨rfl,hb8⟩
     ·replace hq:e2=15:=hq;subst h0;subst hq;clear hpp hy7;go_wp2_with fail
      go_meet;exact⟨rfl,hb7⟩
    ·have t2:(e1==0)=false:=beq_eq_false_iff_ne.2 h0;clear hpp hy7;go_wp2_with fail
     go_meet;exact⟨rfl,hb7⟩
   case rest =>
    obtain⟨rfl,hb0⟩:=hcut;clear hpp hy7 a0 a1 a2 a3 a4 a5 a6 a7 a8 a9 b0 b1 b2 b3 b4 b5 b6 b7 b8 b9 hb7 hbx7 hb4 hb5 hb6;generalize wc=Wt at *;obtain⟨v0,v1,v2,v3,v4,v5⟩:=HS.out _ hb0;go_upto_region 7 with (fail)
    go_upto_region 8 with (fail)
    have hnc:=heap_alloc_new Wt (.cells #[.int .i64 1,.string ⟨#[]⟩,.int .i64 v.kind,.int .i64 v.num,.float .f64 v.flt,.string ⟨v.str.toArray⟩,.slice q0 v.names.length r0,.slice s0 v.items.length u0,.slice none 0 0,.slice none 0 0] 29);have hA:=(Below.refl Wt.heap.size Wt).alloc (Nat.le_refl _) (.cells #[.int .i64 1,.string ⟨#[]⟩,.int .i64 v.kind,.int .i64 v.num,.float .f64 v.flt,.string ⟨v.str.toArray⟩,.slice q0 v.names.length r0,.slice s0 v.items.length u0,.slice none 0 0,.slice none 0 0] 29);generalize Wt.alloc (.cells #[.int .i64 1,.string ⟨#[]⟩,.int .i64 v.kind,.int .i64 v.num,.float .f64 v.flt,.string ⟨v.str.toArray⟩,.slice q0 v.names.length r0,.slice s0 v.items.length u0,.slice none 0 0,.slice none 0 0] 29)=W8 at *;have hb8:=below_tr' hb0 hA;have hco:ExAt' W8 1 (conE v) #[.int .i64 1,.string ⟨#[]⟩,.int .i64 v.kind,.int .i64 v.num,.float .f64 v.flt,.string ⟨v.str.toArray⟩,.slice q0 v.names.length r0,.slice s0 v.items.length u0,.slice none 0 0,.slice none 0 0]:=con_at (HV.out _ hb8);clear hA hb0;generalize Wt.heap.size=G at *;have HBo:=zh (fun w' (hb:Below W8.heap.size W8 w')=>(show ExAt' w' 1 (conE v) _ from hco.keptA hb));have HRt:=zh (rRight8_any _ _ _ W8 hco);have hnl:=lt_of_block hnc;have HCb:=zh (fun w' (hb:Below W8.heap.size W8 w')=>cellsO10 ((hb.block _ hnl).trans hnc));clear hco hnc hnl;clear v0 v1 v2 v3 v4 v5;obtain⟨v0,v1,v2,v3,v4,v5⟩:=HS.out _ hb8;obtain⟨c0,c1,c2,c3,c4,c5,c6,c7,c8,c9⟩:=HCb.out _ (Below.refl W8.heap.size W8);go_wp2_with fail
    cases hr:rightEx (conE v)
    ·rw[hr]at HRt;clear hr;refine(HRt.out).mono ?_;rintro e w9 ⟨rfl,hc⟩;have hb9:=below_tr' hb8 hc;go_wp2_with fail
     go_ret;exact⟨ret_val rfl,HUp.out _ hb9⟩
    ·rw[hr]at HRt;have hcp:=const_plain hr hiv.out;have HT:=zh (fun w' (hb:Below W1.heap.size W1 w')=>HTc.out (const_of hr) w' hb);have hsl:(⟨(textC v).toArray⟩:ByteArray).data.toList=textC v:=rfl;clear hr;refine(HRt.out).mono ?_;rintro e w9 ⟨rfl,hc⟩;have hb9:=below_tr' hb8 hc;have he9:=below_tr' (Below.refl W8.heap.size W8) hc;clear hc;clear v0 v1 v2 v3 v4 v5;clear c0 c1 c2 c3 c4 c5 c6 c7 c8 c9;obtain⟨v0,v1,v2,v3,v4,v5⟩:=HS.out _ hb9;have HP:=fun w' (hb:Below W1.heap.size W1 w')=>HPa.out ⟨(textC v).toArray⟩ w' hb
     rw[hsl,hcp]at HP;replace HP:=zh HP;clear hcp hsl;generalize (⟨(textC v).toArray⟩:ByteArray)=T at *;go_wp2_with fail
     refine(HT.out _ hb9).mono ?_;rintro e w10 ⟨rfl,hc⟩;have hb10:=below_tr' hb9 hc;have he10:=below_tr' he9 hc;clear hc;clear v0 v1 v2 v3 v4 v5;go_wp2_with fail
     refine(HP.out _ hb10).mono ?_;rintro e w11 ⟨d',cs',rfl,hz,hc⟩;have hb11:=below_tr' hb10 hc;have he11:=below_tr' he10 hc;clear hc;obtain⟨q3,r3,s3,u3,n3,m3,k3,l3,rfl⟩:=hz.form4;obtain⟨z,hzz⟩:∃ z,z=conE (canV v):=⟨_,rfl⟩;have hzf:ExAt' w11 d' z #[.int .i64 z.kind,.string ⟨z.str.toArray⟩,.int .i64 z.v.kind,.int .i64 z.v.num,.float .f64 z.v.flt,.string ⟨z.v.str.toArray⟩,.slice q3 z.v.names.length r3,.slice s3 z.v.items.length u3,.slice n3 z.names.length m3,.slice k3 z.kids.length l3]:=by rw[hzz];exact hz.at'
     have Hzz:=zh hzz;rw[show conE (canV v)=z from hzz.symm];clear hzz hz;go_upto_region 11 with (fail)
     have hn3:=heap_alloc_new w11 (.cells #[.int .i64 z.kind,.string ⟨z.str.toArray⟩,.int .i64 z.v.kind,.int .i64 z.v.num,.float .f64 z.v.flt,.string ⟨z.v.str.toArray⟩,.slice q3 z.v.names.length r3,.slice s3 z.v.items.length u3,.slice n3 z.names.length m3,.slice k3 z.kids.length l3] 29);have hA:=(Below.refl w11.heap.size w11).alloc (Nat.le_refl _) (.cells #[.int .i64 z.kind,.string ⟨z.str.toArray⟩,.int .i64 z.v.kind,.int .i64 z.v.num,.float .f64 z.v.flt,.string ⟨z.v.str.toArray⟩,.slice q3 z.v.names.length r3,.slice s3 z.v.items.length u3,.slice n3 z.names.length m3,.slice k3 z.kids.length l3] 29);generalize w11.alloc (.cells #[.int .i64 z.kind,.string ⟨z.str.toArray⟩,.int .i64 z.v.kind,.int .i64 z.v.num,.float .f64 z.v.flt,.string ⟨z.v.str.toArray⟩,.slice q3 z.v.names.length r3,.slice s3 z.v.items.length u3,.slice n3 z.names.length m3,.slice k3 z.kids.length l3] 29)=Wz at *;have hb12:=below_tr' hb11 hA;have hzg:=hzf.at'.keptA hA;have he12:=below_tr' he11 hA;clear hA hzf;obtain⟨c0,c1,c2,c3,c4,c5,c6,c7,c8,c9⟩:=HCb.out _ he12;obtain⟨b0,b1,b2,b3,b4,b5,b6,b7,b8,b9⟩:=cells10 hn3;clear hn3;have HSm:=zh (psame_any _ _ z (conE v) _ _ Wz hzg (HBo.out _ he12) (by rw[Hzz.out];unfold conE;rw[canE,canE,canV_canV8]));go_wp2_with fail
     refine(HSm.out).mono ?_;rintro e w13 ⟨rfl,hc⟩;go_wp2_with fail
     go_ret;exact⟨ret_val rfl,HUp.out _ (below_tr' hb12 hc)⟩
end
end Go.Proofs.YtaaaaggmhjhkkaaGreatDoor
