/-
  BsL in one text.
-/
import Derived.Test.YtepaaochgljcdaaGreatDoorS20
import Derived.Test.YtepaaochgljcdaaGreatDoorCl
set_option maxRecDepth 100000
set_option maxHeartbeats 4000000
namespace Go.Proofs.YtepaaochgljcdaaGreatDoor
open Go.RowKit
theorem packCmds_off (d:Nat) (c:CmdT) (cs:Array Value) (ahead s:ByteArray) (at0:Int) (w:World) (h:CmdAt w (d+1) c cs) (ho:(smallB c.key&&smallB c.v)=false∨100<ahead.size∨1000<s.size):Calls Tryz.prog 3 #[.agg cs,.string ahead,.string s,.int .i64 at0] w (Gave (.bool true) w):=by
 have hsf:∀ (a:Addr) (x:Nat) (m:Mode) (w:World),(store a (.float .f64 x) m).run Tryz.prog w=stored Tryz.prog w a (.float .f64 x) m:=fun a x m w=>run_store _ w a _ m rfl
 obtain⟨a0,a1,a2,a3,a4,a5,a6,a7,a8,a9,a10,a11,a12,a13,a14,a15,a16,rfl⟩:=h.form;have hB:Below w.heap.size w (w.alloc (.cells #[a0,a1,a2,a3,a4,a5,a6,a7,a8,a9,a10,a11,a12,a13,a14,a15,a16] 30)):=(Below.refl _ _).alloc (Nat.le_refl _) _;have hnew:=heap_alloc_new w (.cells #[a0,a1,a2,a3,a4,a5,a6,a7,a8,a9,a10,a11,a12,a13,a14,a15,a16] 30);have hx1:=h.kept hB;obtain⟨W1,hW⟩:∃ W1,W1=w.alloc (.cells #[a0,a1,a2,a3,a4,a5,a6,a7,a8,a9,a10,a11,a12,a13,a14,a15,a16] 30):=⟨_,rfl⟩;rw[←hW]at hB hnew hx1;have HW:=zh hW.symm;have HNew:=zh hnew;have HLt:=zh (lt_of_block hnew);have HUp:=zh (fun w' (hb:Below W1.heap.size W1 w')=>(show Below w.heap.size w w' from hB.trans (hb.mono hB.size)));have HAw:=zh (fun w' (_:Below W1.heap.size W1 w')=>awake13 w');have HSm:=zh (fun w' (hb:Below W1.heap.size W1 w')=>rSmall13_any c (d+1) _ w' (hx1.kept hb));clear hW hnew h hx1 hB;cases hs:smallB c.key&&smallB c.v
 ·rw[hs]at HSm;clear hs ho;go_in;go_upto_region 1 with (fail)
  rw[HW.out];have hgc:=HNew.out;go_wp2_with (first|(refine wpList_loadG rfl rfl rfl (by kernel_rfl) (n:=17) (by kernel_rfl) hgc rfl ?_))
  refine(HAw.out _ (Below.refl W1.heap.size W1)).mono ?_;rintro e w2 ⟨rfl,hc⟩;have hb2:=below_tr' (Below.refl W1.heap.size W1) hc;clear hc;replace hgc:=(hb2.block _ HLt.out).trans HNew.out;go_wp2_with (first|(refine wpList_loadG rfl rfl rfl (by kernel_rfl) (n:=17) (by kernel_rfl) hgc rfl ?_))
  refine(HSm.out _ hb2).mono ?_;rintro e w3 ⟨rfl,hc⟩;have hb3:=below_tr' hb2 hc;clear hc;replace hgc:=(hb3.block _ HLt.out).trans HNew.out;go_wp2_with (first|(refine wpList_loadG rfl rfl rfl (by kernel_rfl) (n:=17) (by kernel_rfl) hgc rfl ?_))
  refine(HAw.out _ hb3).mono ?_;rintro e wz ⟨rfl,hc⟩;go_wp2_with fail
  go_ret;exact⟨ret_val rfl,HUp.out _ (below_tr' hb3 hc)⟩
 ·rw[hs]at HSm ho;by_cases hl1:100<ahead.size
  ·have t1:decide ((100:Int)<(ahead.size:Int))=true:=by simp;omega
   clear hs ho;go_in;go_upto_region 1 with (fail)
   rw[HW.out];have hgc:=HNew.out;go_wp2_with (first|(refine wpList_loadG rfl rfl rfl (by kernel_rfl) (n:=17) (by kernel_rfl) hgc rfl ?_))
   refine(HAw.out _ (Below.refl W1.heap.size W1)).mono ?_;rintro e w2 ⟨rfl,hc⟩;have hb2:=below_tr' (Below.refl W1.heap.size W1) hc;clear hc;replace hgc:=(hb2.block _ HLt.out).trans HNew.out;go_wp2_with (first|(refine wpList_loadG rfl rfl rfl (by kernel_rfl) (n:=17) (by kernel_rfl) hgc rfl ?_))
   refine(HSm.out _ hb2).mono ?_;rintro e w3 ⟨rfl,hc⟩;have hb3:=below_tr' hb2 hc;clear hc;replace hgc:=(hb3.block _ HLt.out).trans HNew.out;go_wp2_with (first|(refine wpList_loadG rfl rfl rfl (by kernel_rfl) (n:=17) (by kernel_rfl) hgc rfl ?_))
   refine(HAw.out _ hb3).mono ?_;rintro e wz ⟨rfl,hc⟩;go_wp2_with fail
   go_ret;exact⟨ret_val rfl,HUp.out _ (below_tr' hb3 hc)⟩
  ·have t1:decide ((100:Int)<(ahead.size:Int))=false:=by simp;omega
   have t2:decide ((1000:Int)<(s.size:Int))=true:=by
    rcases ho with ho|ho|ho
    ·cases ho
    ·exact absurd ho hl1
    ·simp;omega
   clear hs ho;go_in;go_upto_region 1 with (fail)
   rw[HW.out];have hgc:=HNew.out;go_wp2_with (first|(refine wpList_loadG rfl rfl rfl (by kernel_rfl) (n:=17) (by kernel_rfl) hgc rfl ?_))
   refine(HAw.out _ (Below.refl W1.heap.size W1)).mono ?_;rintro e w2 ⟨rfl,hc⟩;have hb2:=below_tr' (Below.refl W1.heap.size W1) hc;clear hc;replace hgc:=(hb2.block _ HLt.out).trans HNew.out;go_wp2_with (first|(refine wpList_loadG rfl rfl rfl (by kernel_rfl) (n:=17) (by kernel_rfl) hgc rfl ?_))
   refine(HSm.out _ hb2).mono ?_;rintro e w3 ⟨rfl,hc⟩;have hb3:=below_tr' hb2 hc;clear hc;replace hgc:=(hb3.block _ HLt.out).trans HNew.out;go_wp2_with (first|(refine wpList_loadG rfl rfl rfl (by kernel_rfl) (n:=17) (by kernel_rfl) hgc rfl ?_))
   refine(HAw.out _ hb3).mono ?_;rintro e wz ⟨rfl,hc⟩;go_wp2_with fail
   go_ret;exact⟨ret_val rfl,HUp.out _ (below_tr' hb3 hc)⟩
theorem packCmds_none (d:Nat) (c:CmdT) (cs:Array Value) (ahead s:ByteArray) (at0:Int) (w:World) (h:CmdAt w (d+1) c cs) (hs:(smallB c.key&&smallB c.v)=true) (hl1:ahead.size≤100) (hl2:s.size≤1000) (hE:cmdE c=none):Calls Tryz.prog 3 #[.agg cs,.string ahead,.string s,.int .i64 at0] w (Gave (.bool true) w):=by
 have hsf:∀ (a:Addr) (x:Nat) (m:Mode) (w:World),(store a (.float .f64 x) m).run Tryz.prog w=stored Tryz.prog w a (.float .f64 x) m:=fun a x m w=>run_store _ w a _ m rfl
 obtain⟨a0,a1,a2,a3,a4,a5,a6,a7,a8,a9,a10,a11,a12,a13,a14,a15,a16,rfl⟩:=h.form;have hB:Below w.heap.size w (w.alloc (.cells #[a0,a1,a2,a3,a4,a5,a6,a7,a8,a9,a10,a11,a12,a13,a14,a15,a16] 30)):=(Below.refl _ _).alloc (Nat.le_refl _) _;have hnew:=heap_alloc_new w (.cells #[a0,a1,a2,a3,a4,a5,a6,a7,a8,a9,a10,a11,a12,a13,a14,a15,a16] 30);have hx1:=h.kept hB;obtain⟨W1,hW⟩:∃ W1,W1=w.alloc (.cells #[a0,a1,a2,a3,a4,a5,a6,a7,a8,a9,a10,a11,a12,a13,a14,a15,a16] 30):=⟨_,rfl⟩;rw[←hW]at hB hnew hx1;have HW:=zh hW.symm;have HNew:=zh hnew;have HLt:=zh (lt_of_block hnew);have HUp:=zh (fun w' (hb:Below W1.heap.size W1 w')=>(show Below w.heap.size w w' from hB.trans (hb.mono hB.size)));have HAw:=zh (fun w' (_:Below W1.heap.size W1 w')=>awake13 w');have HSm:=zh (fun w' (hb:Below W1.heap.size W1 w')=>rSmall13_any c (d+1) _ w' (hx1.kept hb));have HPc:=zh (fun w' (hb:Below W1.heap.size W1 w')=>pCmd_any c d _ w' (hx1.kept hb));have HRc:=zh (fun w' (hb:Below W1.heap.size W1 w')=>rCmd13_any c d _ w' (hx1.kept hb));have HX:=zh (fun w' (hb:Below W1.heap.size W1 w')=>hx1.kept hb);clear hW hnew h hx1 hB;rw[hs]at HSm;rw[hE]at HPc HRc;have HPc:Hid (∀ w',Below W1.heap.size W1 w'→Calls Tryz.prog 6 #[.agg #[a0,a1,a2,a3,a4,a5,a6,a7,a8,a9,a10,a11,a12,a13,a14,a15,a16]] w' (Gives (.tuple #[.string ⟨#[]⟩,.int .i64 5]) w')):=HPc;have HRc:Hid (∀ w',Below W1.heap.size W1 w'→Calls Tryz.prog 7 #[.agg #[a0,a1,a2,a3,a4,a5,a6,a7,a8,a9,a10,a11,a12,a13,a14,a15,a16]] w' (Gives (.tuple #[.string ⟨#[]⟩,.int .i64 5]) w')):=HRc;have t1:decide ((100:Int)<(ahead.size:Int))=false:=by simp;omega
 have t2:decide ((1000:Int)<(s.size:Int))=false:=by simp;omega
 have HRp:=zh (fun w' (_:Below W1.heap.size W1 w')=>pReadCmd_any s (by omega) at0 w');have HRr:=zh (fun w' (_:Below W1.heap.size W1 w')=>rReadCmd_any s (by omega) at0 w');unfold RdC at HRp HRr;generalize resC s at0=RS at HRp HRr;obtain⟨cq,nx,er⟩:=RS;dsimp only at HRp HRr;clear hE hs HX hl1 hl2;go_in;go_upto_region 1 with (fail)
 rw[HW.out];have hgc:=HNew.out;go_wp2_with (first|(refine wpList_loadG rfl rfl rfl (by kernel_rfl) (n:=17) (by kernel_rfl) hgc rfl ?_))
 refine(HAw.out _ (Below.refl W1.heap.size W1)).mono ?_;rintro e w2 ⟨rfl,hc⟩;have hb2:=below_tr' (Below.refl W1.heap.size W1) hc;clear hc;replace hgc:=(hb2.block _ HLt.out).trans HNew.out;go_wp2_with (first|(refine wpList_loadG rfl rfl rfl (by kernel_rfl) (n:=17) (by kernel_rfl) hgc rfl ?_))
 refine(HSm.out _ hb2).mono ?_;rintro e w3 ⟨rfl,hc⟩;have hb3:=below_tr' hb2 hc;clear hc;replace hgc:=(hb3.block _ HLt.out).trans HNew.out;go_wp2_with (first|(refine wpList_loadG rfl rfl rfl (by kernel_rfl) (n:=17) (by kernel_rfl) hgc rfl ?_))
 refine(HPc.out _ hb3).mono ?_;rintro e w4 ⟨rfl,hc⟩;have hb4:=below_tr' hb3 hc;clear hc;replace hgc:=(hb4.block _ HLt.out).trans HNew.out;go_wp2_with (first|(refine wpList_loadG rfl rfl rfl (by kernel_rfl) (n:=17) (by kernel_rfl) hgc rfl ?_))
 refine(HRc.out _ hb4).mono ?_;rintro e w5 ⟨rfl,hc⟩;have hb5:=below_tr' hb4 hc;clear hc;replace hgc:=(hb5.block _ HLt.out).trans HNew.out;go_wp2_with (first|(refine wpList_loadG rfl rfl rfl (by kernel_rfl) (n:=17) (by kernel_rfl) hgc rfl ?_))
 refine(HRp.out _ hb5).mono ?_;rintro e wp ⟨dp,csp,rfl,hcp,hc⟩;have hbp:=below_tr' hb5 hc;clear hc hgc;have hcp0:=hcp;obtain⟨pp1,pc1,p1,cap1,pp1',pc1',p1',cap1',rfl,_,_⟩:=hcp0;go_upto_region 12 with (refine wpList_rown rfl rfl rfl rfl rfl (n:=17) (by kernel_rfl) (heap_alloc_new _ _) rfl rfl (List.all_eq_true.1 (by kernel_rfl)) ?_;intro wn hgn FFn)
 have hAp:Below wp.heap.size wp wn:=(((Fr.refl [wp.heap.size] wp).alloc _).trans FFn).below (Nat.le_refl _) (by simp);replace hcp:=hcp.kept hAp;have hbp:=below_tr' hbp hAp;have hgp:=hgn;clear hAp FFn hgn;generalize wp.heap.size=Gp at *;go_wp2_with fail
 refine(HRr.out _ hbp).mono ?_;rintro e wq ⟨dq,csq,rfl,hcq,hc⟩;have hbq:=below_tr' hbp hc;replace hgp:=(hc.block _ (lt_of_block hgp)).trans hgp;replace hcp:=hcp.kept hc;clear hc;have hcq0:=hcq;obtain⟨pp2,pc2,p2,cap2,pp2',pc2',p2',cap2',rfl,_,_⟩:=hcq0;go_upto_region 13 with (refine wpList_rown rfl rfl rfl rfl rfl (n:=17) (by kernel_rfl) (heap_alloc_new _ _) rfl rfl (List.all_eq_true.1 (by kernel_rfl)) ?_;intro wn hgn FFn)
 have hAq:Below wq.heap.size wq wn:=(((Fr.refl [wq.heap.size] wq).alloc _).trans FFn).below (Nat.le_refl _) (by simp);replace hcq:=hcq.kept hAq;replace hcp:=hcp.kept hAq;replace hgp:=(hAq.block _ (lt_of_block hgp)).trans hgp;have hbq:=below_tr' hbq hAq;have hgq:=hgn;clear hAq FFn hgn;generalize wq.heap.size=Gq at *;have HSC:=zh (rSameCmd_can cq cq dp dq _ _ wn hcp hcq rfl);clear hcp hcq;have te1:(nx==nx)=true:=by simp
 have te2:(er==er)=true:=by simp
 go_wp2_with (first|(refine wpList_loadG rfl rfl rfl (by kernel_rfl) (n:=17) (by kernel_rfl) hgp rfl ?_)|(refine wpList_loadG rfl rfl rfl (by kernel_rfl) (n:=17) (by kernel_rfl) hgq rfl ?_))
 refine(HSC.out).mono ?_;rintro e wz ⟨rfl,hc⟩;go_wp2_with fail
 go_ret;exact⟨ret_val rfl,HUp.out _ (below_tr' hbq hc)⟩
theorem packCmds_some (d:Nat) (c:CmdT) (cs:Array Value) (ahead s:ByteArray) (at0:Int) (w:World) (h:CmdAt w (d+1) c cs) (hs:(smallB c.key&&smallB c.v)=true) (hl1:ahead.size≤100) (hl2:s.size≤1000) (q:List UInt8) (hE:cmdE c=some q):Calls Tryz.prog 3 #[.agg cs,.string ahead,.string s,.int .i64 at0] w (Gave (.bool true) w):=by
 have hik:inV c.key:=by obtain⟨_,_,_,_,_,_,_,_,_,h,_⟩:=h;exact h.in9
 have hiv:inV c.v:=by obtain⟨_,_,_,_,_,_,_,_,_,_,h⟩:=h;exact h.in9
 have hql:=cmdE_len hE;have hres:=resC_enc c q ahead s hik hiv hE;have hsf:∀ (a:Addr) (x:Nat) (m:Mode) (w:World),(store a (.float .f64 x) m).run Tryz.prog w=stored Tryz.prog w a (.float .f64 x) m:=fun a x m w=>run_store _ w a _ m rfl
 obtain⟨a0,a1,a2,a3,a4,a5,a6,a7,a8,a9,a10,a11,a12,a13,a14,a15,a16,rfl⟩:=h.form;have hB:Below w.heap.size w (w.alloc (.cells #[a0,a1,a2,a3,a4,a5,a6,a7,a8,a9,a10,a11,a12,a13,a14,a15,a16] 30)):=(Below.refl _ _).alloc (Nat.le_refl _) _;have hnew:=heap_alloc_new w (.cells #[a0,a1,a2,a3,a4,a5,a6,a7,a8,a9,a10,a11,a12,a13,a14,a15,a16] 30);have hx1:=h.kept hB;obtain⟨W1,hW⟩:∃ W1,W1=w.alloc (.cells #[a0,a1,a2,a3,a4,a5,a6,a7,a8,a9,a10,a11,a12,a13,a14,a15,a16] 30):=⟨_,rfl⟩;rw[←hW]at hB hnew hx1;have HW:=zh hW.symm;have HNew:=zh hnew;have HLt:=zh (lt_of_block hnew);have HUp:=zh (fun w' (hb:Below W1.heap.size W1 w')=>(show Below w.heap.size w w' from hB.trans (hb.mono hB.size)));have HAw:=zh (fun w' (_:Below W1.heap.size W1 w')=>awake13 w');have HSm:=zh (fun w' (hb:Below W1.heap.size W1 w')=>rSmall13_any c (d+1) _ w' (hx1.kept hb));have HPc:=zh (fun w' (hb:Below W1.heap.size W1 w')=>pCmd_any c d _ w' (hx1.kept hb));have HRc:=zh (fun w' (hb:Below W1.heap.size W1 w')=>rCmd13_any c d _ w' (hx1.kept hb));have HX:=zh (fun w' (hb:Below W1.heap.size W1 w')=>hx1.kept hb);clear hW hnew h hx1 hB;rw[hs]at HSm;rw[hE]at HPc HRc;have HPc:Hid (∀ w',Below W1.heap.size W1 w'→Calls Tryz.prog 6 #[.agg #[a0,a1,a2,a3,a4,a5,a6,a7,a8,a9,a10,a11,a12,a13,a14,a15,a16]] w' (Gives (.tuple #[.string ⟨q.toArray⟩,.int .i64 0]) w')):=HPc;have HRc:Hid (∀ w',Below W1.heap.size W1 w'→Calls Tryz.prog 7 #[.agg #[a0,a1,a2,a3,a4,a5,a6,a7,a8,a9,a10,a11,a12,a13,a14,a15,a16]] w' (Gives (.tuple #[.string ⟨q.toArray⟩,.int .i64 0]) w')):=HRc;have t1:decide ((100:Int)<(ahead.size:Int))=false:=by simp;omega
 have t2:decide ((1000:Int)<(s.size:Int))=false:=by simp;omega
 have HRp:=zh (fun w' (_:Below W1.heap.size W1 w')=>pReadCmd_any s (by omega) at0 w');have HRr:=zh (fun w' (_:Below W1.heap.size W1 w')=>rReadCmd_any s (by omega) at0 w');unfold RdC at HRp HRr;generalize resC s at0=RS at HRp HRr;obtain⟨cq,nx,er⟩:=RS;dsimp only at HRp HRr;have hQs:(⟨q.toArray⟩:ByteArray).size=q.length:=by simp[ByteArray.size]
 have hQd:(⟨q.toArray⟩:ByteArray).data.toList=q:=rfl;generalize (⟨q.toArray⟩:ByteArray)=Q at *;obtain⟨C1,hC1⟩:∃ C1,C1=ahead++Q:=⟨_,rfl⟩;obtain⟨C2,hC2⟩:∃ C2,C2=C1++s:=⟨_,rfl⟩;have hz1:C1.size=ahead.size+Q.size:=by rw[hC1,ByteArray.size_append]
 have hz2:C2.size=C1.size+s.size:=by rw[hC2,ByteArray.size_append]
 have hs1:∀ w,(Op.stringOp .add ahead Q).run Tryz.prog w=.ok (.string C1) w:=fun w=>by
  rw[run_string_add_sum w _ _ (by omega),hC1]
 have hs2:∀ w,(Op.stringOp .add C1 s).run Tryz.prog w=.ok (.string C2) w:=fun w=>by
  rw[run_string_add_sum w _ _ (by omega),hC2]
 have hres:=hres C2 (by rw[hC2,hC1,ByteArray.data_append,ByteArray.data_append];simp[hQd]);rw[←hQs]at hres;obtain⟨N6,hN6⟩:∃ N6:Int,N6=(ahead.size:Int)+(Q.size:Int):=⟨_,rfl⟩;rw[←hN6]at hres;have hwr:IntKind.i64.wrap ((ahead.size:Int)+(Q.size:Int))=N6:=by
  rw[hN6];unfold IntKind.wrap;simp only[IntKind.bits,IntKind.signed];simp;omega
 have HRd:=zh (fun w' (_:Below W1.heap.size W1 w')=>pReadCmd_any C2 (by omega) (ahead.size:Int) w');unfold RdC at HRd;rw[hres]at HRd;have te:(Q.toList==Q.toList)=true:=by simp
 have tn:(N6==N6)=true:=by simp
 have tn2:(N6 != N6)=false:=by simp
 clear hN6 hres hC1 hC2 hQd hz1 hz2 hql hQs hE hik hiv hs hl1 hl2;go_in;go_upto_region 1 with (fail)
 rw[HW.out];have hgc:=HNew.out;go_wp2_with (first|(refine wpList_loadG rfl rfl rfl (by kernel_rfl) (n:=17) (by kernel_rfl) hgc rfl ?_))
 refine(HAw.out _ (Below.refl W1.heap.size W1)).mono ?_;rintro e w2 ⟨rfl,hc⟩;have hb2:=below_tr' (Below.refl W1.heap.size W1) hc;clear hc;replace hgc:=(hb2.block _ HLt.out).trans HNew.out;go_wp2_with (first|(refine wpList_loadG rfl rfl rfl (by kernel_rfl) (n:=17) (by kernel_rfl) hgc rfl ?_))
 refine(HSm.out _ hb2).mono ?_;rintro e w3 ⟨rfl,hc⟩;have hb3:=below_tr' hb2 hc;clear hc;replace hgc:=(hb3.block _ HLt.out).trans HNew.out;go_wp2_with (first|(refine wpList_loadG rfl rfl rfl (by kernel_rfl) (n:=17) (by kernel_rfl) hgc rfl ?_))
 refine(HPc.out _ hb3).mono ?_;rintro e w4 ⟨rfl,hc⟩;have hb4:=below_tr' hb3 hc;clear hc;replace hgc:=(hb4.block _ HLt.out).trans HNew.out;go_wp2_with (first|(refine wpList_loadG rfl rfl rfl (by kernel_rfl) (n:=17) (by kernel_rfl) hgc rfl ?_))
 refine(HRc.out _ hb4).mono ?_;rintro e w5 ⟨rfl,hc⟩;have hb5:=below_tr' hb4 hc;clear hc;replace hgc:=(hb5.block _ HLt.out).trans HNew.out;go_wp2_with (first|(refine wpList_loadG rfl rfl rfl (by kernel_rfl) (n:=17) (by kernel_rfl) hgc rfl ?_))
 refine(HRd.out _ hb5).mono ?_;rintro e w6 ⟨d6,cs6,rfl,hc6,hc⟩;have hb6:=below_tr' hb5 hc;clear hc;try dsimp only at hc6
 have hc60:=hc6;obtain⟨pp6,pc6,p6,cap6,pp6',pc6',p6',cap6',rfl,_,_⟩:=hc60;go_upto_region 9 with (refine wpList_rown rfl rfl rfl rfl rfl (n:=17) (by kernel_rfl) (heap_alloc_new _ _) rfl rfl (List.all_eq_true.1 (by kernel_rfl)) ?_;intro wn hgn FFn)
 have hA6:Below w6.heap.size w6 wn:=(((Fr.refl [w6.heap.size] w6).alloc _).trans FFn).below (Nat.le_refl _) (by simp);replace hc6:=hc6.kept hA6;have hb6:=below_tr' hb6 hA6;have hg6:=hgn;clear hA6 FFn hgn;replace hgc:=(hb6.block _ HLt.out).trans HNew.out;have HSD:=zh (rSameCmd_can _ _ d6 (d+1) _ _ wn hc6 (HX.out _ hb6) (canC_can9 c));clear hc6;generalize w6.heap.size=G6 at *;go_wp2_with (first|(refine wpList_loadG rfl rfl rfl (by kernel_rfl) (n:=17) (by kernel_rfl) hg6 rfl ?_)|(refine wpList_loadG rfl rfl rfl (by kernel_rfl) (n:=17) (by kernel_rfl) hgc rfl ?_))
 refine(HSD.out).mono ?_;rintro e w7 ⟨rfl,hc⟩;have hb7:=below_tr' hb6 hc;replace hgc:=(hb7.block _ HLt.out).trans HNew.out;clear hc HSD hg6;go_wp2_with (first|(refine wpList_loadG rfl rfl rfl (by kernel_rfl) (n:=17) (by kernel_rfl) hgc rfl ?_))
 refine(HRp.out _ hb7).mono ?_;rintro e wp ⟨dp,csp,rfl,hcp,hc⟩;have hbp:=below_tr' hb7 hc;clear hc hgc;have hcp0:=hcp;obtain⟨pp1,pc1,p1,cap1,pp1',pc1',p1',cap1',rfl,_,_⟩:=hcp0;go_upto_region 12 with (refine wpList_rown rfl rfl rfl rfl rfl (n:=17) (by kernel_rfl) (heap_alloc_new _ _) rfl rfl (List.all_eq_true.1 (by kernel_rfl)) ?_;intro wn hgn FFn)
 have hAp:Below wp.heap.size wp wn:=(((Fr.refl [wp.heap.size] wp).alloc _).trans FFn).below (Nat.le_refl _) (by simp);replace hcp:=hcp.kept hAp;have hbp:=below_tr' hbp hAp;have hgp:=hgn;clear hAp FFn hgn;generalize wp.heap.size=Gp at *;go_wp2_with fail
 refine(HRr.out _ hbp).mono ?_;rintro e wq ⟨dq,csq,rfl,hcq,hc⟩;have hbq:=below_tr' hbp hc;replace hgp:=(hc.block _ (lt_of_block hgp)).trans hgp;replace hcp:=hcp.kept hc;clear hc;have hcq0:=hcq;obtain⟨pp2,pc2,p2,cap2,pp2',pc2',p2',cap2',rfl,_,_⟩:=hcq0;go_upto_region 13 with (refine wpList_rown rfl rfl rfl rfl rfl (n:=17) (by kernel_rfl) (heap_alloc_new _ _) rfl rfl (List.all_eq_true.1 (by kernel_rfl)) ?_;intro wn hgn FFn)
 have hAq:Below wq.heap.size wq wn:=(((Fr.refl [wq.heap.size] wq).alloc _).trans FFn).below (Nat.le_refl _) (by simp);replace hcq:=hcq.kept hAq;replace hcp:=hcp.kept hAq;replace hgp:=(hAq.block _ (lt_of_block hgp)).trans hgp;have hbq:=below_tr' hbq hAq;have hgq:=hgn;clear hAq FFn hgn;generalize wq.heap.size=Gq at *;have HSC:=zh (rSameCmd_can cq cq dp dq _ _ wn hcp hcq rfl);clear hcp hcq;have te1:(nx==nx)=true:=by simp
 have te2:(er==er)=true:=by simp
 go_wp2_with (first|(refine wpList_loadG rfl rfl rfl (by kernel_rfl) (n:=17) (by kernel_rfl) hgp rfl ?_)|(refine wpList_loadG rfl rfl rfl (by kernel_rfl) (n:=17) (by kernel_rfl) hgq rfl ?_))
 refine(HSC.out).mono ?_;rintro e wz ⟨rfl,hc⟩;go_wp2_with fail
 go_ret;exact⟨ret_val rfl,HUp.out _ (below_tr' hbq hc)⟩
theorem packCmds_any (d:Nat) (c:CmdT) (cs:Array Value) (ahead s:ByteArray) (at0:Int) (_ : -9223372036854775808≤at0∧at0≤9223372036854775807) (w:World) (h:CmdAt w d c cs):Calls Tryz.prog 3 #[.agg cs,.string ahead,.string s,.int .i64 at0] w (Gave (.bool true) w):=by
 obtain⟨d,rfl⟩:∃ n,d=n+1:=by
  cases d with
  | zero=>obtain⟨_,_,_,_,_,_,_,_,_,h,_⟩:=h;exact h.elim
  | succ n=>exact⟨n,rfl⟩
 cases hs:smallB c.key&&smallB c.v with
 | false=>exact packCmds_off d c cs ahead s at0 w h (.inl hs)
 | true =>
  by_cases h1:100<ahead.size
  ·exact packCmds_off d c cs ahead s at0 w h (.inr (.inl h1))
  ·by_cases h2:1000<s.size
   ·exact packCmds_off d c cs ahead s at0 w h (.inr (.inr h2))
   ·cases hE:cmdE c with
    | none=>exact packCmds_none d c cs ahead s at0 w h hs (by omega) (by omega) hE
    | some q=>exact packCmds_some d c cs ahead s at0 w h hs (by omega) (by omega) q hE
end Go.Proofs.YtepaaochgljcdaaGreatDoor
