/-
  U1, U2, U5 in one text.
-/
import Derived.Test.YtaaaaggmhjhkkaaGreatDoorS02
import Derived.Test.YtaaaaggmhjhkkaaGreatDoorS10
import Derived.Test.YtaaaaggmhjhkkaaGreatDoorS24
import Derived.Test.YtaaaaggmhjhkkaaGreatDoorCl
set_option maxRecDepth 100000
set_option maxHeartbeats 16000000
namespace Go.Proofs.YtaaaaggmhjhkkaaGreatDoor
section
open Go.RowKit
theorem rsign_any (n m:Int) (w:World):Calls Tryz.prog 93 #[.int .i64 n,.int .i64 m] w fun e w'=>e=.returned (.int .i64 (sgnI n m))∧w=w':=by
 have hs:=sgnI.eq_def n m;by_cases h:n<m
 ·have t1:decide (n<m)=true:=decide_eq_true h;rw[if_pos h]at hs;have HS:=zh hs;clear hs;go_in;go_wp2_with fail
  go_ret;exact⟨ret_val (by rw[HS.out];rfl),rfl⟩
 ·have t1:decide (n<m)=false:=decide_eq_false h;rw[if_neg h]at hs;by_cases h2:m<n
  ·have t2:decide (m<n)=true:=decide_eq_true h2;rw[if_pos h2]at hs;have HS:=zh hs;clear hs;go_in;go_wp2_with fail
   go_ret;exact⟨ret_val (by rw[HS.out];rfl),rfl⟩
  ·have t2:decide (m<n)=false:=decide_eq_false h2;rw[if_neg h2]at hs;have HS:=zh hs;clear hs;go_in;go_wp2_with fail
   go_ret;exact⟨ret_val (by rw[HS.out];rfl),rfl⟩
theorem rtext_ord (s t:ByteArray) (w:World):Calls Tryz.prog 95 #[.string s,.string t] w fun e w'=>e=.returned (.int .i64 (txtO s.toList t.toList))∧w=w':=by
 have hs:=txtO.eq_def s.toList t.toList;cases t1:Op.bytesLess s.toList t.toList
 ·rw[t1,if_neg (by decide)]at hs;by_cases h2:s.toList=t.toList
  ·rw[if_pos h2]at hs;have t2:(s.toList==t.toList)=true:=beq_iff_eq.2 h2;have HS:=zh hs;clear hs h2;go_in;go_wp2_with fail
   go_ret;exact⟨ret_val (by rw[HS.out];rfl),rfl⟩
  ·rw[if_neg h2]at hs;have t2:(s.toList==t.toList)=false:=beq_eq_false_iff_ne.2 h2;have HS:=zh hs;clear hs h2;go_in;go_wp2_with fail
   go_ret;exact⟨ret_val (by rw[HS.out];rfl),rfl⟩
 ·rw[t1,if_pos rfl]at hs;have HS:=zh hs;clear hs;go_in;go_wp2_with fail
  go_ret;exact⟨ret_val (by rw[HS.out];rfl),rfl⟩
theorem rtext_ords (s t:List UInt8) (w:World):Calls Tryz.prog 95 #[.string ⟨s.toArray⟩,.string ⟨t.toArray⟩] w fun e w'=>e=.returned (.int .i64 (txtO s t))∧w=w':=by
 have:=rtext_ord ⟨s.toArray⟩ ⟨t.toArray⟩ w;rwa [ByteArray.toList_eq,ByteArray.toList_eq]at this
theorem rrows_any (l m:List (List UInt8)) (u v:Value) (w:World) (hu:Strs w l u) (hv:Strs w m v):Calls Tryz.prog 96 #[u,v] w (Gives (.int .i64 (rowsO l m)) w):=by
 obtain⟨p,c,rfl,hln,hcu⟩:=hu.row;obtain⟨q,d,rfl,hlm,hcv⟩:=hv.row;have HT:=zh (fun s t w=>rtext_ords s t w);have HS:=zh (fun n m w=>rsign_any n m w);have HCu:=zh hcu;have HCv:=zh hcv;have HStep:=zh (fun i (h1:i<l.length) h2=>rowsO_step (a:=l) (b:=m) (i:=i) h1 h2);have HEnd:=zh (fun i (h1:i≤l.length) h2 h3=>rowsO_end (a:=l) (b:=m) (i:=i) h1 h2 h3);clear hu hv hcu hcv;generalize l.length=N at *;generalize m.length=M at *;have h0:Hid (rowsO l m=rowsO (l.drop 0) (m.drop 0)):=by show _=_;rw[List.drop_zero,List.drop_zero]
 generalize rowsO l m=R at *;go_in;go_wp2_with fail
 go_loopw [5] (fun iv wr=>∃ i:Nat,iv=.int .i64 (i:Int)∧i≤N∧i≤M∧Hid (R=rowsO (l.drop i) (m.drop i))∧∃ k,wr=w.drewN k) (fun iv _=>N - (intOf iv).toNat)
 case atStart=>exact⟨0,rfl,Nat.zero_le _,Nat.zero_le _,h0,0,rfl⟩
 case round =>
  clear h0;obtain⟨i,rfl,hi,hj,hR,k,rfl⟩:=hrel;by_cases hlt:i<N
  ·have t0:decide ((i:Int)<(N:Int))=true:=by simp;omega
   by_cases hlm:i<M
   ·have t1:decide ((i:Int)<(M:Int))=true:=by simp;omega
    obtain⟨g,off,rfl,c1⟩:=HCu.out i hlt;obtain⟨g',off',rfl,c2⟩:=HCv.out i hlm;replace c1:(w.drewN k).cell? ⟨g,off+i,none⟩=_:=c1;replace c2:(w.drewN k).cell? ⟨g',off'+i,none⟩=_:=c2;have hst:=HStep.out i hlt hlm;have b1:(0:Int)≤(i:Int):=by omega
    have b2:(i:Int)<(N:Int):=by omega
    have b3:(i:Int)<(M:Int):=by omega
    have HT2:=zh (fun w=>HT.out (l.getD i []) (m.getD i []) w);generalize txtO (l.getD i []) (m.getD i [])=T at *;generalize (⟨(l.getD i []).toArray⟩:ByteArray)=s at *;generalize (⟨(m.getD i []).toArray⟩:ByteArray)=s' at *;by_cases hT:T=0
    ·rw[if_pos hT]at hst;subst hT;have HST:=zh hst;clear hst;generalize hW:w.drewN k=W at *;have HW:=zh hW;clear hW;go_wp2_with fail
     go_quiet (refine Calls.quiet_of_same ((HT2.out _).mono fun _ _ h=>⟨h.1,h.2.symm⟩))
     go_wp2_with fail
     go_roundw
     case rel=>exact⟨i+1,by go_num,by omega,by omega,by show _=_;rw[hR.out,HST.out],_,by rw[←HW.out,World.drewN_drewN]⟩
     case measure=>simp[intOf];omega
    ·rw[if_neg hT]at hst;have t2:(T != 0)=true:=by rw[bne_iff_ne];exact hT
     have HST:=zh hst;clear hst hT;generalize hW:w.drewN k=W at *;have HW:=zh hW;clear hW;go_wp2_with fail
     go_quiet (refine Calls.quiet_of_same ((HT2.out _).mono fun _ _ h=>⟨h.1,h.2.symm⟩))
     go_wp2_with fail
     go_ret;exact⟨ret_val (by rw[hR.out,HST.out];rfl),by rw[←HW.out];exact⟨rfl,rfl,rfl,Nat.le_refl _,fun _ _=>rfl⟩⟩
   ·have t1:decide ((i:Int)<(M:Int))=false:=by simp;omega
    have HE:=zh (HEnd.out i hi hj (.inr (by omega)));go_wp2_with fail
    refine(HS.out _ _ _).mono ?_;rintro e w2 ⟨rfl,rfl⟩;go_wp2_with fail
    go_ret;exact⟨ret_val (by rw[hR.out,HE.out];rfl),⟨rfl,rfl,rfl,Nat.le_refl _,fun _ _=>rfl⟩⟩
  ·have t0:decide ((i:Int)<(N:Int))=false:=by simp;omega
   have HE:=zh (HEnd.out i hi hj (.inl (by omega)));go_wp2_with fail
   refine(HS.out _ _ _).mono ?_;rintro e w2 ⟨rfl,rfl⟩;go_wp2_with fail
   go_ret;exact⟨ret_val (by rw[hR.out,HE.out];rfl),⟨rfl,rfl,rfl,Nat.le_refl _,fun _ _=>rfl⟩⟩
end
section
open Go.RowKit
def IffB (b:Bool) (P:Prop):Prop:=b=true↔P
theorem IffB.to {b:Bool} {P:Prop} (h:IffB b P):b=true↔P:=h
theorem ValAt.ints {w:World} {d:Nat} {v:VT} {cs:Array Value} (h:ValAt w d v cs):(-9223372036854775808≤v.kind∧v.kind≤9223372036854775807)∧(-9223372036854775808≤v.num∧v.num≤9223372036854775807):=by
 rcases d with _|d
 ·exact h.elim
 ·obtain⟨pn,pi,h1,h2,h3,_⟩:=h;exact⟨h2,h3⟩
theorem rOrder_step (d d2:Nat) (a b:VT) (ca cb:Array Value) (w:World)
  (ih:∀ (d2:Nat) (a b:VT) (ca cb:Array Value) (w:World),ValAt w d a ca→ValAt w d2 b cb→Calls Tryz.prog 67 #[.agg ca,.agg cb] w (Gives (.int .i64 (ordV a b)) w))
  (ha:ValAt w (d+1) a ca) (hb:ValAt w (d2+1) b cb):Calls Tryz.prog 67 #[.agg ca,.agg cb] w (Gives (.int .i64 (ordV a b)) w):=by
 obtain⟨pp,pc,p,cap,hca⟩:=ha.sixS;obtain⟨pp',pc',p',cap',hcb⟩:=hb.sixS;have hia:=ha.boxes hca;have hib:=hb.boxes hcb;obtain⟨hsa,hfa,hNb⟩:=ha.strs hca;obtain⟨hsb,hfb,hNb'⟩:=hb.strs hcb;obtain⟨⟨kA1,kA2⟩,xA1,xA2⟩:=ha.ints;obtain⟨⟨kB1,kB2⟩,xB1,xB2⟩:=hb.ints;subst hca;subst hcb;clear ha hb;have hr0:=fun h=>ordV_ne (a:=a) (b:=b) h
 have hr1:=fun h k=>ordV_n (a:=a) (b:=b) h k
 have hr3:=fun h k=>ordV_f (a:=a) (b:=b) h k
 have hr4:=fun h k=>ordV_s (a:=a) (b:=b) h k
 have hrg:=fun h k1 k2 k3 k4=>ordV_gen (a:=a) (b:=b) h k1 k2 k3 k4
 have hp0:=fun h=>preO_l (a:=a) (b:=b) h
 have hp1:=fun h k l=>preO_n (a:=a) (b:=b) h k l
 have hp2:=fun h k l=>preO_s (a:=a) (b:=b) h k l
 have hq0:=fun h k=>headO_r (a:=a) (b:=b) h k
 have hq1:¬ (preO a b=0∧a.kind≠5)→headO a b=preO a b:=fun h=>by unfold headO;rw[if_neg h]
 have hstep:=fun i (h1:i<a.items.length) h2=>ordL_step (a:=a.items) (b:=b.items) (i:=i) h1 h2
 have hend:=fun i (h1:i≤a.items.length) h2 h3=>ordL_end (a:=a.items) (b:=b.items) (i:=i) h1 h2 h3
 have hft:=fun w=>rtext_ords a.str b.str w
 have hfo:=fun w=>rorder_any a.flt b.flt hfa hfb w
 generalize ordV a b=R at *;generalize preO a b=c1 at *;generalize headO a b=c2 at *;generalize a.kind=K at *;generalize b.kind=K' at *;generalize a.num=X at *;generalize b.num=X' at *;generalize txtO a.str b.str=T at *;generalize (⟨a.str.toArray⟩:ByteArray)=S at *;generalize (⟨b.str.toArray⟩:ByteArray)=S' at *;generalize ordB a.flt b.flt=FO at *;generalize a.flt=fa at *;generalize b.flt=fb at *;have hfw:=fun x (h:Below w.heap.size w x)=>rrows_any a.names b.names (.slice pp a.names.length pc) (.slice pp' b.names.length pc') x (hsa.kept h) (hsb.kept h)
 generalize rowsO a.names b.names=RO at *;generalize a.names.length=M at *;generalize b.names.length=M' at *;generalize a.items=its at *;generalize b.items=its' at *;generalize its.length=N at *;generalize its'.length=N' at *;have HP0:=zh hp0;have HP1:=zh hp1;have HP2:=zh hp2;have HQ0:=zh hq0;have HQ1:=zh hq1;have HStep:=zh hstep;have HEnd:=zh hend;have hB:Below w.heap.size w ((w.alloc (.cells #[.int .i64 K,.int .i64 X,.float .f64 fa,.string S,.slice pp M pc,.slice p N cap] 26)).alloc (.cells #[.int .i64 K',.int .i64 X',.float .f64 fb,.string S',.slice pp' M' pc',.slice p' N' cap'] 26)):=((Below.refl _ _).alloc (Nat.le_refl _) _).alloc (by simp) _;have e1:(w.alloc (.cells #[.int .i64 K,.int .i64 X,.float .f64 fa,.string S,.slice pp M pc,.slice p N cap] 26)).heap.size=w.heap.size+1:=by simp
 have hnA:((w.alloc (.cells #[.int .i64 K,.int .i64 X,.float .f64 fa,.string S,.slice pp M pc,.slice p N cap] 26)).alloc (.cells #[.int .i64 K',.int .i64 X',.float .f64 fb,.string S',.slice pp' M' pc',.slice p' N' cap'] 26)).heap[w.heap.size]?=some (.cells #[.int .i64 K,.int .i64 X,.float .f64 fa,.string S,.slice pp M pc,.slice p N cap] 26 (0,0)):=by
  rw[Lib.alloc_old _ _ _ (by simp)];exact heap_alloc_new w _
 have hnB:((w.alloc (.cells #[.int .i64 K,.int .i64 X,.float .f64 fa,.string S,.slice pp M pc,.slice p N cap] 26)).alloc (.cells #[.int .i64 K',.int .i64 X',.float .f64 fb,.string S',.slice pp' M' pc',.slice p' N' cap'] 26)).heap[w.heap.size+1]?=some (.cells #[.int .i64 K',.int .i64 X',.float .f64 fb,.string S',.slice pp' M' pc',.slice p' N' cap'] 26 (0,0)):=by
  have:=heap_alloc_new (w.alloc (.cells #[.int .i64 K,.int .i64 X,.float .f64 fa,.string S,.slice pp M pc,.slice p N cap] 26)) (.cells #[.int .i64 K',.int .i64 X',.float .f64 fb,.string S',.slice pp' M' pc',.slice p' N' cap'] 26);rwa [e1]at this
 have HBl:=zh (fun x (h:Below ((w.alloc (.cells #[.int .i64 K,.int .i64 X,.float .f64 fa,.string S,.slice pp M pc,.slice p N cap] 26)).alloc (.cells #[.int .i64 K',.int .i64 X',.float .f64 fb,.string S',.slice pp' M' pc',.slice p' N' cap'] 26)).heap.size ((w.alloc (.cells #[.int .i64 K,.int .i64 X,.float .f64 fa,.string S,.slice pp M pc,.slice p N cap] 26)).alloc (.cells #[.int .i64 K',.int .i64 X',.float .f64 fb,.string S',.slice pp' M' pc',.slice p' N' cap'] 26)) x)=>(show x.heap[w.heap.size]?=some (.cells #[.int .i64 K,.int .i64 X,.float .f64 fa,.string S,.slice pp M pc,.slice p N cap] 26 (0,0))∧x.heap[w.heap.size+1]?=some (.cells #[.int .i64 K',.int .i64 X',.float .f64 fb,.string S',.slice pp' M' pc',.slice p' N' cap'] 26 (0,0)) from⟨(h.block _ (lt_of_block hnA)).trans hnA,(h.block _ (lt_of_block hnB)).trans hnB⟩));have HIA:=zh (fun i (hi:i<N) x (h:Below ((w.alloc (.cells #[.int .i64 K,.int .i64 X,.float .f64 fa,.string S,.slice pp M pc,.slice p N cap] 26)).alloc (.cells #[.int .i64 K',.int .i64 X',.float .f64 fb,.string S',.slice pp' M' pc',.slice p' N' cap'] 26)).heap.size ((w.alloc (.cells #[.int .i64 K,.int .i64 X,.float .f64 fa,.string S,.slice pp M pc,.slice p N cap] 26)).alloc (.cells #[.int .i64 K',.int .i64 X',.float .f64 fb,.string S',.slice pp' M' pc',.slice p' N' cap'] 26)) x)=>(show ∃ g off,p=some ⟨g,off,none⟩∧∃ ds,ValAt x d (its.getD i noVT) ds∧x.cell? ⟨g,off+i*6+0,none⟩=ds[0]?∧x.cell? ⟨g,off+i*6+1,none⟩=ds[1]?∧x.cell? ⟨g,off+i*6+2,none⟩=ds[2]?∧x.cell? ⟨g,off+i*6+3,none⟩=ds[3]?∧x.cell? ⟨g,off+i*6+4,none⟩=ds[4]?∧x.cell? ⟨g,off+i*6+5,none⟩=ds[5]? from by
  obtain⟨g,off,h1,h2,ds,h3,h4⟩:=hia i hi;have hx:=hB.trans (h.mono hB.size);have hc:=fun j (hj:j<6)=>(hx.cell (p:=⟨g,off+i*6+j,none⟩) h2).trans (h4 j hj)
  exact⟨g,off,h1,ds,h3.kept hx,hc 0 (by omega),hc 1 (by omega),hc 2 (by omega),hc 3 (by omega),hc 4 (by omega),hc 5 (by omega)⟩))
 have HIB:=zh (fun i (hi:i<N') x (h:Below ((w.alloc (.cells #[.int .i64 K,.int .i64 X,.float .f64 fa,.string S,.slice pp M pc,.slice p N cap] 26)).alloc (.cells #[.int .i64 K',.int .i64 X',.float .f64 fb,.string S',.slice pp' M' pc',.slice p' N' cap'] 26)).heap.size ((w.alloc (.cells #[.int .i64 K,.int .i64 X,.float .f64 fa,.string S,.slice pp M pc,.slice p N cap] 26)).alloc (.cells #[.int .i64 K',.int .i64 X',.float .f64 fb,.string S',.slice pp' M' pc',.slice p' N' cap'] 26)) x)=>(show ∃ g off,p'=some ⟨g,off,none⟩∧∃ ds,ValAt x d2 (its'.getD i noVT) ds∧x.cell? ⟨g,off+i*6+0,none⟩=ds[0]?∧x.cell? ⟨g,off+i*6+1,none⟩=ds[1]?∧x.cell? ⟨g,off+i*6+2,none⟩=ds[2]?∧x.cell? ⟨g,off+i*6+3,none⟩=ds[3]?∧x.cell? ⟨g,off+i*6+4,none⟩=ds[4]?∧x.cell? ⟨g,off+i*6+5,none⟩=ds[5]? from by
  obtain⟨g,off,h1,h2,ds,h3,h4⟩:=hib i hi;have hx:=hB.trans (h.mono hB.size);have hc:=fun j (hj:j<6)=>(hx.cell (p:=⟨g,off+i*6+j,none⟩) h2).trans (h4 j hj)
  exact⟨g,off,h1,ds,h3.kept hx,hc 0 (by omega),hc 1 (by omega),hc 2 (by omega),hc 3 (by omega),hc 4 (by omega),hc 5 (by omega)⟩))
 have HW:=zh (fun x (h:Below ((w.alloc (.cells #[.int .i64 K,.int .i64 X,.float .f64 fa,.string S,.slice pp M pc,.slice p N cap] 26)).alloc (.cells #[.int .i64 K',.int .i64 X',.float .f64 fb,.string S',.slice pp' M' pc',.slice p' N' cap'] 26)).heap.size ((w.alloc (.cells #[.int .i64 K,.int .i64 X,.float .f64 fa,.string S,.slice pp M pc,.slice p N cap] 26)).alloc (.cells #[.int .i64 K',.int .i64 X',.float .f64 fb,.string S',.slice pp' M' pc',.slice p' N' cap'] 26)) x)=>hfw x (hB.trans (h.mono hB.size)));have HS:=zh (fun n m w=>rsign_any n m w);have HT:=zh hft;have HF:=zh hfo;have IH:=zh ih;have HR0:=zh hr0;have HR1:=zh hr1;have HR3:=zh hr3;have HR4:=zh hr4;have HRG:=zh hrg;clear hnA hnB e1 hia hib hsa hsb hfa hfb hfo hft hfw ih hp0 hp1 hp2 hq0 hq1 hstep hend hr0 hr1 hr3 hr4 hrg;generalize hgh:w.heap.size=H at *;have HH:=zh hgh;clear hgh;by_cases hk:K=K'
 ·subst hk;have HR1:=zh (HR1.out rfl);have HR3:=zh (HR3.out rfl);have HR4:=zh (HR4.out rfl);have HRG:=zh (HRG.out rfl);have t0:(K != K)=false:=by simp
  by_cases k1:K=1
  ·have HR:=zh (HR1.out (.inl k1));subst k1;go_in;go_upto_region 1 with (fail)
   rw[HH.out];generalize (w.alloc (.cells #[.int .i64 1,.int .i64 X,.float .f64 fa,.string S,.slice pp M pc,.slice p N cap] 26)).alloc (.cells #[.int .i64 1,.int .i64 X',.float .f64 fb,.string S',.slice pp' M' pc',.slice p' N' cap'] 26)=W1 at *;have nA:=(HBl.out _ (Below.refl _ _)).1;have nB:=(HBl.out _ (Below.refl _ _)).2;have a0:W1.cell? ⟨H,0,none⟩=some (.int .i64 1):=by rw[zc nA];rfl
   have b0:W1.cell? ⟨H+1,0,none⟩=some (.int .i64 1):=by rw[zc nB];rfl
   have a1:W1.cell? ⟨H,1,none⟩=some (.int .i64 X):=by rw[zc nA];rfl
   have b1:W1.cell? ⟨H+1,1,none⟩=some (.int .i64 X'):=by rw[zc nB];rfl
   have a2:W1.cell? ⟨H,2,none⟩=some (.float .f64 fa):=by rw[zc nA];rfl
   have b2:W1.cell? ⟨H+1,2,none⟩=some (.float .f64 fb):=by rw[zc nB];rfl
   have a3:W1.cell? ⟨H,3,none⟩=some (.string S):=by rw[zc nA];rfl
   have b3:W1.cell? ⟨H+1,3,none⟩=some (.string S'):=by rw[zc nB];rfl
   have a4:W1.cell? ⟨H,4,none⟩=some (.slice pp M pc):=by rw[zc nA];rfl
   have b4:W1.cell? ⟨H+1,4,none⟩=some (.slice pp' M' pc'):=by rw[zc nB];rfl
   have a5:W1.cell? ⟨H,5,none⟩=some (.slice p N cap):=by rw[zc nA];rfl
   have b5:W1.cell? ⟨H+1,5,none⟩=some (.slice p' N' cap'):=by rw[zc nB];rfl
   clear nA nB;go_wp2_with (go_at_call 93;refine(HS.out _ _ _).mono ?_;rintro e w' ⟨rfl,rfl⟩)
   go_ret;exact⟨ret_val (by rw[HR.out];rfl),by rw[HH.out];exact hB⟩
  by_cases k2:K=2
  ·have HR:=zh (HR1.out (.inr k2));subst k2;go_in;go_upto_region 1 with (fail)
   rw[HH.out];generalize (w.alloc (.cells #[.int .i64 2,.int .i64 X,.float .f64 fa,.string S,.slice pp M pc,.slice p N cap] 26)).alloc (.cells #[.int .i64 2,.int .i64 X',.float .f64 fb,.string S',.slice pp' M' pc',.slice p' N' cap'] 26)=W1 at *;have nA:=(HBl.out _ (Below.refl _ _)).1;have nB:=(HBl.out _ (Below.refl _ _)).2;have a0:W1.cell? ⟨H,0,none⟩=some (.int .i64 2):=by rw[zc nA];rfl
   have b0:W1.cell? ⟨H+1,0,none⟩=some (.int .i64 2):=by rw[zc nB];rfl
   have a1:W1.cell? ⟨H,1,none⟩=some (.int .i64 X):=by rw[zc nA];rfl
   have b1:W1.cell? ⟨H+1,1,none⟩=some (.int .i64 X'):=by rw[zc nB];rfl
   have a2:W1.cell? ⟨H,2,none⟩=some (.float .f64 fa):=by rw[zc nA];rfl
   have b2:W1.cell? ⟨H+1,2,none⟩=some (.float .f64 fb):=by rw[zc nB];rfl
   have a3:W1.cell? ⟨H,3,none⟩=some (.string S):=by rw[zc nA];rfl
   have b3:W1.cell? ⟨H+1,3,none⟩=some (.string S'):=by rw[zc nB];rfl
   have a4:W1.cell? ⟨H,4,none⟩=some (.slice pp M pc):=by rw[zc nA];rfl
   have b4:W1.cell? ⟨H+1,4,none⟩=some (.slice pp' M' pc'):=by rw[zc nB];rfl
   have a5:W1.cell? ⟨H,5,none⟩=some (.slice p N cap):=by rw[zc nA];rfl
   have b5:W1.cell? ⟨H+1,5,none⟩=some (.slice p' N' cap'):=by rw[zc nB];rfl
   clear nA nB;go_wp2_with (go_at_call 93;refine(HS.out _ _ _).mono ?_;rintro e w' ⟨rfl,rfl⟩)
   go_ret;exact⟨ret_val (by rw[HR.out];rfl),by rw[HH.out];exact hB⟩
  by_cases k3:K=3
  ·have HR:=zh (HR3.out k3);subst k3;go_in;go_upto_region 1 with (fail)
   rw[HH.out];generalize (w.alloc (.cells #[.int .i64 3,.int .i64 X,.float .f64 fa,.string S,.slice pp M pc,.slice p N cap] 26)).alloc (.cells #[.int .i64 3,.int .i64 X',.float .f64 fb,.string S',.slice pp' M' pc',.slice p' N' cap'] 26)=W1 at *;have nA:=(HBl.out _ (Below.refl _ _)).1;have nB:=(HBl.out _ (Below.refl _ _)).2;have a0:W1.cell? ⟨H,0,none⟩=some (.int .i64 3):=by rw[zc nA];rfl
   have b0:W1.cell? ⟨H+1,0,none⟩=some (.int .i64 3):=by rw[zc nB];rfl
   have a1:W1.cell? ⟨H,1,none⟩=some (.int .i64 X):=by rw[zc nA];rfl
   have b1:W1.cell? ⟨H+1,1,none⟩=some (.int .i64 X'):=by rw[zc nB];rfl
   have a2:W1.cell? ⟨H,2,none⟩=some (.float .f64 fa):=by rw[zc nA];rfl
   have b2:W1.cell? ⟨H+1,2,none⟩=some (.float .f64 fb):=by rw[zc nB];rfl
   have a3:W1.cell? ⟨H,3,none⟩=some (.string S):=by rw[zc nA];rfl
   have b3:W1.cell? ⟨H+1,3,none⟩=some (.string S'):=by rw[zc nB];rfl
   have a4:W1.cell? ⟨H,4,none⟩=some (.slice pp M pc):=by rw[zc nA];rfl
   have b4:W1.cell? ⟨H+1,4,none⟩=some (.slice pp' M' pc'):=by rw[zc nB];rfl
   have a5:W1.cell? ⟨H,5,none⟩=some (.slice p N cap):=by rw[zc nA];rfl
   have b5:W1.cell? ⟨H+1,5,none⟩=some (.slice p' N' cap'):=by rw[zc nB];rfl
   clear nA nB;go_wp2_with (go_at_call 94;refine(HF.out _).mono ?_;rintro e w' ⟨rfl,rfl⟩)
   go_ret;exact⟨ret_val (by rw[HR.out];rfl),by rw[HH.out];exact hB⟩
  by_cases k4:K=4
  ·have HR:=zh (HR4.out k4);subst k4;go_in;go_upto_region 1 with (fail)
   rw[HH.out];generalize (w.alloc (.cells #[.int .i64 4,.int .i64 X,.float .f64 fa,.string S,.slice pp M pc,.slice p N cap] 26)).alloc (.cells #[.int .i64 4,.int .i64 X',.float .f64 fb,.string S',.slice pp' M' pc',.slice p' N' cap'] 26)=W1 at *;have nA:=(HBl.out _ (Below.refl _ _)).1;have nB:=(HBl.out _ (Below.refl _ _)).2;have a0:W1.cell? ⟨H,0,none⟩=some (.int .i64 4):=by rw[zc nA];rfl
   have b0:W1.cell? ⟨H+1,0,none⟩=some (.int .i64 4):=by rw[zc nB];rfl
   have a1:W1.cell? ⟨H,1,none⟩=some (.int .i64 X):=by rw[zc nA];rfl
   have b1:W1.cell? ⟨H+1,1,none⟩=some (.int .i64 X'):=by rw[zc nB];rfl
   have a2:W1.cell? ⟨H,2,none⟩=some (.float .f64 fa):=by rw[zc nA];rfl
   have b2:W1.cell? ⟨H+1,2,none⟩=some (.float .f64 fb):=by rw[zc nB];rfl
   have a3:W1.cell? ⟨H,3,none⟩=some (.string S):=by rw[zc nA];rfl
   have b3:W1.cell? ⟨H+1,3,none⟩=some (.string S'):=by rw[zc nB];rfl
   have a4:W1.cell? ⟨H,4,none⟩=some (.slice pp M pc):=by rw[zc nA];rfl
   have b4:W1.cell? ⟨H+1,4,none⟩=some (.slice pp' M' pc'):=by rw[zc nB];rfl
   have a5:W1.cell? ⟨H,5,none⟩=some (.slice p N cap):=by rw[zc nA];rfl
   have b5:W1.cell? ⟨H+1,5,none⟩=some (.slice p' N' cap'):=by rw[zc nB];rfl
   clear nA nB;go_wp2_with (go_at_call 95;refine(HT.out _).mono ?_;rintro e w' ⟨rfl,rfl⟩)
   go_ret;exact⟨ret_val (by rw[HR.out];rfl),by rw[HH.out];exact hB⟩
  have t1:(K==1)=false:=beq_eq_false_iff_ne.2 k1;have t2:(K==2)=false:=beq_eq_false_iff_ne.2 k2;have t3:(K==3)=false:=beq_eq_false_iff_ne.2 k3;have t4:(K==4)=false:=beq_eq_false_iff_ne.2 k4;have HR:=zh (HRG.out k1 k2 k3 k4);clear k1 k2 k3 k4 HR0 HR1 HR3 HR4 HRG;go_in;go_upto_region 1 with (fail)
  rw[HH.out];generalize (w.alloc (.cells #[.int .i64 K,.int .i64 X,.float .f64 fa,.string S,.slice pp M pc,.slice p N cap] 26)).alloc (.cells #[.int .i64 K,.int .i64 X',.float .f64 fb,.string S',.slice pp' M' pc',.slice p' N' cap'] 26)=W1 at *;have nA:=(HBl.out _ (Below.refl _ _)).1;have nB:=(HBl.out _ (Below.refl _ _)).2;have a0:W1.cell? ⟨H,0,none⟩=some (.int .i64 K):=by rw[zc nA];rfl
  have b0:W1.cell? ⟨H+1,0,none⟩=some (.int .i64 K):=by rw[zc nB];rfl
  have a1:W1.cell? ⟨H,1,none⟩=some (.int .i64 X):=by rw[zc nA];rfl
  have b1:W1.cell? ⟨H+1,1,none⟩=some (.int .i64 X'):=by rw[zc nB];rfl
  have a2:W1.cell? ⟨H,2,none⟩=some (.float .f64 fa):=by rw[zc nA];rfl
  have b2:W1.cell? ⟨H+1,2,none⟩=some (.float .f64 fb):=by rw[zc nB];rfl
  have a3:W1.cell? ⟨H,3,none⟩=some (.string S):=by rw[zc nA];rfl
  have b3:W1.cell? ⟨H+1,3,none⟩=some (.string S'):=by rw[zc nB];rfl
  have a4:W1.cell? ⟨H,4,none⟩=some (.slice pp M pc):=by rw[zc nA];rfl
  have b4:W1.cell? ⟨H+1,4,none⟩=some (.slice pp' M' pc'):=by rw[zc nB];rfl
  have a5:W1.cell? ⟨H,5,none⟩=some (.slice p N cap):=by rw[zc nA];rfl
  have b5:W1.cell? ⟨H+1,5,none⟩=some (.slice p' N' cap'):=by rw[zc nB];rfl
  clear nA nB;have hBB:=Below.refl W1.heap.size W1;go_upto_region 12 with (fail)
  go_cut [48] (fun v wx=>∃ b,v=.bool b∧IffB b (K≠5∧K≠6)∧W1=wx)
  case first =>
   by_cases k5:K=5
   ·have n5:(K != 5)=false:=by rw[k5];rfl
    have hx:IffB false (K≠5∧K≠6):=⟨(fun h=>nomatch h),(fun h=>absurd k5 h.1)⟩;clear k5;go_wp2_with fail
    go_meet;exact⟨_,rfl,hx,rfl⟩
   ·have n5:(K != 5)=true:=by rw[bne_iff_ne];exact k5
    by_cases k6:K=6
    ·have n6:(K != 6)=false:=by rw[k6];rfl
     have hx:IffB false (K≠5∧K≠6):=⟨(fun h=>nomatch h),(fun h=>absurd k6 h.2)⟩;clear k5 k6;go_wp2_with fail
     go_meet;exact⟨_,rfl,hx,rfl⟩
    ·have n6:(K != 6)=true:=by rw[bne_iff_ne];exact k6
     have hx:IffB true (K≠5∧K≠6):=⟨fun _=>⟨k5,k6⟩,fun _=>rfl⟩;clear k5 k6;go_wp2_with fail
     go_meet;exact⟨_,rfl,hx,rfl⟩
  case rest =>
   obtain⟨b,rfl,hbk,hw⟩:=hcut;subst hw;go_upto_if 48 with (fail)
   go_cut [5] (fun v wx=>v=.int .i64 c1∧W1=wx)
   case first =>
    cases b
    ·have h0:c1=0:=HP0.out (by
      by_cases k5:K=5
      ·exact .inl k5
      ·by_cases k6:K=6
       ·exact .inr k6
       ·have:=hbk.to.2 ⟨k5,k6⟩;cases this)
     have h0:=zh h0;go_wp2_with fail
     go_meet;exact⟨by rw[h0.out],rfl⟩
    ·obtain⟨k5,k6⟩:=hbk.to.1 rfl;have HP1:=zh (HP1.out k5 k6);have HP2:=zh (HP2.out k5 k6);clear k5 k6;have HSg:=zh (fun w=>HS.out X X' w);generalize sgnI X X'=sg at *;by_cases hsg:sg=0
     ·have hc:=zh (HP2.out hsg);subst hsg;go_wp2_with (first|(go_at_call 93;refine(HSg.out _).mono ?_;rintro e w' ⟨rfl,rfl⟩)|(go_at_call 95;refine(HT.out _).mono ?_;rintro e w' ⟨rfl,rfl⟩))
      go_meet;exact⟨by rw[hc.out],rfl⟩
     ·have hc:=zh (HP1.out hsg);have tsg:(sg==0)=false:=beq_eq_false_iff_ne.2 hsg;clear hsg;go_wp2_with (first|(go_at_call 93;refine(HSg.out _).mono ?_;rintro e w' ⟨rfl,rfl⟩)|(go_at_call 95;refine(HT.out _).mono ?_;rintro e w' ⟨rfl,rfl⟩))
      go_meet;exact⟨by rw[hc.out],rfl⟩
   case rest =>
    obtain⟨rfl,hw⟩:=hcut;subst hw;clear hbk HP0 HP1 HP2;go_upto_region 16 with (fail)
    go_cut [67] (fun v wx=>∃ b,v=.bool b∧IffB b (c1=0∧K≠5)∧W1=wx)
    case first =>
     by_cases k1:c1=0
     ·have n1:(c1==0)=true:=by rw[k1];rfl
      by_cases k5:K=5
      ·have n5:(K != 5)=false:=by rw[k5];rfl
       have hx:IffB false (c1=0∧K≠5):=⟨(fun h=>nomatch h),(fun h=>absurd k5 h.2)⟩;clear k5 k1;go_wp2_with fail
       go_meet;exact⟨_,rfl,hx,rfl⟩
      ·have n5:(K != 5)=true:=by rw[bne_iff_ne];exact k5
       have hx:IffB true (c1=0∧K≠5):=⟨fun _=>⟨k1,k5⟩,fun _=>rfl⟩;clear k5 k1;go_wp2_with fail
       go_meet;exact⟨_,rfl,hx,rfl⟩
     ·have n1:(c1==0)=false:=beq_eq_false_iff_ne.2 k1;have hx:IffB false (c1=0∧K≠5):=⟨(fun h=>nomatch h),(fun h=>absurd h.1 k1)⟩;clear k1;go_wp2_with fail
      go_meet;exact⟨_,rfl,hx,rfl⟩
    case rest =>
     obtain⟨b,rfl,hbk,hw⟩:=hcut;subst hw;go_upto_if 67 with (fail)
     go_cut [5] (fun v wx=>v=.int .i64 c2∧Below W1.heap.size W1 wx)
     case first =>
      cases b
      ·have h0:c2=c1:=HQ1.out (fun h=>by have:=hbk.to.2 h;cases this)
       have h0:=zh h0;go_wp2_with fail
       go_meet;exact⟨by rw[h0.out],Below.refl _ _⟩
      ·have h0:=zh (HQ0.out (hbk.to.1 rfl).1 (hbk.to.1 rfl).2);go_wp2_with (go_at_call 96;refine(HW.out _ (Below.refl _ _)).mono ?_;rintro e w2 ⟨rfl,hw2⟩)
       go_meet;exact⟨by rw[h0.out],hw2⟩
     case rest =>
      obtain⟨rfl,hB2⟩:=hcut;clear hbk HQ0 HQ1 hBB HW HT HF;clear a0 b0 a1 b1 a2 b2 a3 b3 a4 b4 a5 b5;go_wp2_with fail
      go_loopw [5,6] (fun cv iv wr=>∃ (i:Nat) (c:Int),cv=.int .i64 c∧iv=.int .i64 (i:Int)∧i≤N∧i≤N'∧Hid (R=if c=0 then ordL (its.drop i) (its'.drop i) else c)∧Below W1.heap.size W1 wr) (fun _ iv _=>N - (intOf iv).toNat)
      case atStart=>exact⟨0,_,rfl,rfl,Nat.zero_le _,Nat.zero_le _,by show _=_;rw[List.drop_zero,List.drop_zero];exact HR.out,hB2⟩
      case round =>
       clear hB2 HR;obtain⟨i,c,rfl,rfl,hi,hi',hR,hb⟩:=hrel;have nA:=(HBl.out _ hb).1;have nB:=(HBl.out _ hb).2;have a0:wr.cell? ⟨H,0,none⟩=some (.int .i64 K):=by rw[zc nA];rfl
       have b0:wr.cell? ⟨H+1,0,none⟩=some (.int .i64 K):=by rw[zc nB];rfl
       have a1:wr.cell? ⟨H,1,none⟩=some (.int .i64 X):=by rw[zc nA];rfl
       have b1:wr.cell? ⟨H+1,1,none⟩=some (.int .i64 X'):=by rw[zc nB];rfl
       have a2:wr.cell? ⟨H,2,none⟩=some (.float .f64 fa):=by rw[zc nA];rfl
       have b2:wr.cell? ⟨H+1,2,none⟩=some (.float .f64 fb):=by rw[zc nB];rfl
       have a3:wr.cell? ⟨H,3,none⟩=some (.string S):=by rw[zc nA];rfl
       have b3:wr.cell? ⟨H+1,3,none⟩=some (.string S'):=by rw[zc nB];rfl
       have a4:wr.cell? ⟨H,4,none⟩=some (.slice pp M pc):=by rw[zc nA];rfl
       have b4:wr.cell? ⟨H+1,4,none⟩=some (.slice pp' M' pc'):=by rw[zc nB];rfl
       have a5:wr.cell? ⟨H,5,none⟩=some (.slice p N cap):=by rw[zc nA];rfl
       have b5:wr.cell? ⟨H+1,5,none⟩=some (.slice p' N' cap'):=by rw[zc nB];rfl
       clear nA nB;by_cases hc:c=0
       ·subst hc;replace hR:Hid (R=ordL (its.drop i) (its'.drop i)):=by show _=_;rw[hR.out,if_pos rfl]
        by_cases hlt:i<N
        ·have t0:decide ((i:Int)<(N:Int))=true:=by simp;omega
         by_cases hlm:i<N'
         ·have tm:decide ((i:Int)<(N':Int))=true:=by simp;omega
          obtain⟨gA,offA,rfl,dsA,hvaA,x0,x1,x2,x3,x4,x5⟩:=HIA.out i hlt _ hb;obtain⟨gB,offB,rfl,dsB,hvaB,y0,y1,y2,y3,y4,y5⟩:=HIB.out i hlm _ hb;obtain⟨q1,r1,s1,v1,rfl⟩:=hvaA.sixS;obtain⟨q2,r2,s2,v2,rfl⟩:=hvaB.sixS;simp at x0 x1 x2 x3 x4 x5 y0 y1 y2 y3 y4 y5;have i1:(0:Int)≤(i:Int):=by omega
          have i2:(i:Int)<(N:Int):=by omega
          have i3:(i:Int)<(N':Int):=by omega
          have HQ:=zh (IH.out d2 _ _ _ _ wr.drew (hvaA.kept ((Below.refl wr.heap.size wr).drew)) (hvaB.kept ((Below.refl wr.heap.size wr).drew)));have HSt:=zh (HStep.out i hlt hlm);clear hvaA hvaB;generalize ordV (its.getD i noVT) (its'.getD i noVT)=c' at *;go_wp2_with fail
          refine wp_still_tailG 10 (by kernel_rfl) (by kernel_rfl) ?_;simp only[List.take_succ_cons,List.take_zero,List.drop_succ_cons,List.drop_zero];iterate 10 (refine StillG.step (fun K hK=>?_);go_simp;refine hK _ ?_;clear hK K)
          refine StillG.nil ?_;go_wp2_with fail
          refine(HQ.out).mono ?_;rintro e w3 ⟨rfl,hb3⟩;go_wp2_with fail
          go_roundw
          case rel=>exact⟨i+1,c',rfl,by go_num,by omega,by omega,by show _=_;rw[hR.out,HSt.out],hb.trans ((undrew hb3).mono hb.size)⟩
          case measure=>simp[intOf];omega
         ·have tm:decide ((i:Int)<(N':Int))=false:=by simp;omega
          have HE:=zh (HEnd.out i hi hi' (.inr (by omega)));go_wp2_with (go_at_call 93;refine(HS.out _ _ _).mono ?_;rintro e w' ⟨rfl,rfl⟩)
          go_ret;exact⟨ret_val (by rw[hR.out,HE.out];rfl),by rw[HH.out];exact hB.trans (hb.mono (by have:=hB.size;rw[HH.out]at this;exact this))⟩
        ·have t0:decide ((i:Int)<(N:Int))=false:=by simp;omega
         have HE:=zh (HEnd.out i hi hi' (.inl (by omega)));go_wp2_with (go_at_call 93;refine(HS.out _ _ _).mono ?_;rintro e w' ⟨rfl,rfl⟩)
         go_ret;exact⟨ret_val (by rw[hR.out,HE.out];rfl),by rw[HH.out];exact hB.trans (hb.mono (by have:=hB.size;rw[HH.out]at this;exact this))⟩
       ·replace hR:Hid (R=c):=by show _=_;rw[hR.out,if_neg hc]
        have tc:(c==0)=false:=beq_eq_false_iff_ne.2 hc;clear hc;by_cases hlt:i<N
        ·have t0:decide ((i:Int)<(N:Int))=true:=by simp;omega
         by_cases hlm:i<N'
         ·have tm:decide ((i:Int)<(N':Int))=true:=by simp;omega
          go_wp2_with fail
          go_ret;exact⟨ret_val (by rw[hR.out];rfl),by rw[HH.out];exact hB.trans (hb.mono (by have:=hB.size;rw[HH.out]at this;exact this))⟩
         ·have tm:decide ((i:Int)<(N':Int))=false:=by simp;omega
          go_wp2_with fail
          go_ret;exact⟨ret_val (by rw[hR.out];rfl),by rw[HH.out];exact hB.trans (hb.mono (by have:=hB.size;rw[HH.out]at this;exact this))⟩
        ·have t0:decide ((i:Int)<(N:Int))=false:=by simp;omega
         go_wp2_with fail
         go_ret;exact⟨ret_val (by rw[hR.out];rfl),by rw[HH.out];exact hB.trans (hb.mono (by have:=hB.size;rw[HH.out]at this;exact this))⟩
 ·have t0:(K != K')=true:=by rw[bne_iff_ne];exact hk
  have HR:=zh (HR0.out hk);clear hk;go_in;go_upto_region 1 with (fail)
  rw[HH.out];generalize (w.alloc (.cells #[.int .i64 K,.int .i64 X,.float .f64 fa,.string S,.slice pp M pc,.slice p N cap] 26)).alloc (.cells #[.int .i64 K',.int .i64 X',.float .f64 fb,.string S',.slice pp' M' pc',.slice p' N' cap'] 26)=W1 at *;have nA:=(HBl.out _ (Below.refl _ _)).1;have nB:=(HBl.out _ (Below.refl _ _)).2;have a0:W1.cell? ⟨H,0,none⟩=some (.int .i64 K):=by rw[zc nA];rfl
  have b0:W1.cell? ⟨H+1,0,none⟩=some (.int .i64 K'):=by rw[zc nB];rfl
  have a1:W1.cell? ⟨H,1,none⟩=some (.int .i64 X):=by rw[zc nA];rfl
  have b1:W1.cell? ⟨H+1,1,none⟩=some (.int .i64 X'):=by rw[zc nB];rfl
  have a2:W1.cell? ⟨H,2,none⟩=some (.float .f64 fa):=by rw[zc nA];rfl
  have b2:W1.cell? ⟨H+1,2,none⟩=some (.float .f64 fb):=by rw[zc nB];rfl
  have a3:W1.cell? ⟨H,3,none⟩=some (.string S):=by rw[zc nA];rfl
  have b3:W1.cell? ⟨H+1,3,none⟩=some (.string S'):=by rw[zc nB];rfl
  have a4:W1.cell? ⟨H,4,none⟩=some (.slice pp M pc):=by rw[zc nA];rfl
  have b4:W1.cell? ⟨H+1,4,none⟩=some (.slice pp' M' pc'):=by rw[zc nB];rfl
  have a5:W1.cell? ⟨H,5,none⟩=some (.slice p N cap):=by rw[zc nA];rfl
  have b5:W1.cell? ⟨H+1,5,none⟩=some (.slice p' N' cap'):=by rw[zc nB];rfl
  clear nA nB;go_wp2_with (go_at_call 93;refine(HS.out _ _ _).mono ?_;rintro e w' ⟨rfl,rfl⟩)
  go_ret;exact⟨ret_val (by rw[HR.out];rfl),by rw[HH.out];exact hB⟩
theorem rOrder_any:∀ (d d2:Nat) (a b:VT) (ca cb:Array Value) (w:World),ValAt w d a ca→ValAt w d2 b cb→Calls Tryz.prog 67 #[.agg ca,.agg cb] w (Gives (.int .i64 (ordV a b)) w)
 | 0,_,_,_,_,_,_,ha,_=>ha.elim
 | _+1,0,_,_,_,_,_,_,hb=>hb.elim
 | d+1,d2+1,a,b,ca,cb,w,ha,hb=>rOrder_step d d2 a b ca cb w (fun d2 a b ca cb w=>rOrder_any d d2 a b ca cb w) ha hb
end
section
open Go.RowKit
theorem rSame_any (d d2:Nat) (a b:VT) (ca cb:Array Value) (w:World) (ha:ValAt w d a ca) (hb:ValAt w d2 b cb):Calls Tryz.prog 34 #[.agg ca,.agg cb] w (Gives (.bool (sameV a b)) w):=by
 obtain⟨pp,pc,p,cap,rfl⟩:=ha.sixS;obtain⟨pp',pc',p',cap',rfl⟩:=hb.sixS;have hB1:Below w.heap.size w (w.alloc (.cells #[.int .i64 a.kind,.int .i64 a.num,.float .f64 a.flt,.string ⟨a.str.toArray⟩,.slice pp a.names.length pc,.slice p a.items.length cap] 26)):=(Below.refl _ _).alloc (Nat.le_refl _) _;have hB:=hB1.alloc (o:=.cells #[.int .i64 b.kind,.int .i64 b.num,.float .f64 b.flt,.string ⟨b.str.toArray⟩,.slice pp' b.names.length pc',.slice p' b.items.length cap'] 26) hB1.size;have HC:=zh (rOrder_any d d2 a b _ _ _ (ha.kept hB) (hb.kept hB));have hS:=sameV.eq_def a b;clear ha hb hB1;generalize (⟨a.str.toArray⟩:ByteArray)=S at *;generalize (⟨b.str.toArray⟩:ByteArray)=S' at *;generalize ordV a b=c at *;generalize sameV a b=R at *;by_cases hc:c=0
 ·have t0:(c==0)=true:=by rw[hc];rfl
  rw[decide_eq_true hc]at hS;have HS:=zh hS;clear hc hS;go_in;go_wp2_with fail
  refine(HC.out).mono ?_;rintro e w2 ⟨rfl,hb2⟩;go_wp2_with fail
  go_ret;exact⟨ret_val (by rw[HS.out];rfl),hB.trans (hb2.mono hB.size)⟩
 ·have t0:(c==0)=false:=beq_eq_false_iff_ne.2 hc;rw[decide_eq_false hc]at hS;have HS:=zh hS;clear hc hS;go_in;go_wp2_with fail
  refine(HC.out).mono ?_;rintro e w2 ⟨rfl,hb2⟩;go_wp2_with fail
  go_ret;exact⟨ret_val (by rw[HS.out];rfl),hB.trans (hb2.mono hB.size)⟩
end
end Go.Proofs.YtaaaaggmhjhkkaaGreatDoor
