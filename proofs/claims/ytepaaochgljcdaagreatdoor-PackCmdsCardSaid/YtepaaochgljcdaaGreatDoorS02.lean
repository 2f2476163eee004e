/-
  Sh, U2, Q3, Y5 in one text.
-/
import Derived.Deep.DeepCutAuto
import Derived.Deep.RegionHeld3
import Derived.StillTailTactics
import Derived.Test.YtepaaochgljcdaaGreatDoorS01
import Derived.Test.YtepaaochgljcdaaGreatDoorCl
set_option maxRecDepth 100000
set_option maxHeartbeats 16000000
namespace Go.Proofs.YtepaaochgljcdaaGreatDoor
section
open Go.RowKit
/-- given up with an error's number -/
abbrev gave (x:Int):Ending:=.panicked [{ v:=.iface 33 (.int .i64 x),recovered:=false }]
theorem ta_errno (x:Int) (w:World):(Instr.typeAssert (.iface 33 (.int .i64 x)) 20 33 true).run Tryz.prog w=.ok (.tuple #[.int .i64 x,.bool true]) w:=by kernel_rfl
theorem ta_nil (w:World):(Instr.typeAssert .nilIface 20 33 true).run Tryz.prog w=.ok (.tuple #[.int .i64 0,.bool false]) w:=by kernel_rfl
/-- a way that has come to its end within a region -/
theorem shut_way {X:Prop} {w:World} (h:X) (_:wpAny Tryz.prog .any #[] (fun _ _ _=>True) 0 #[] { tmps:=#[],defers:=[] } w):X:=h
theorem ValAt.sixS {w:World} {d:Nat} {v:VT} {cs:Array Value} (h:ValAt w d v cs):∃ pp pc p cap,cs=#[.int .i64 v.kind,.int .i64 v.num,.float .f64 v.flt,.string ⟨v.str.toArray⟩,.slice pp v.names.length pc,.slice p v.items.length cap]:=by
 cases d with
 | zero=>exact h.elim
 | succ d =>
  obtain⟨pn,p,cap,h0⟩:=h.six;obtain⟨a,b,h1,_,_,_,_,h6,_⟩:=h;obtain⟨pp,pc,hp⟩:=h6.lenOf;have h2:=h0.symm.trans h1;simp only[Array.mk.injEq,List.cons.injEq]at h2;exact⟨pp,pc,p,cap,by rw[h0,h2.2.2.2.2.1,hp]⟩
/-- operations still to be run, not to be laid open -/
structure StillG (P:Program) (ops:Array Oper) (w:World) (Q:Act→Prop) (l:List Oper) (a:Act):Prop where
 out:wpStill P ops w Q l a
theorem StillG.nil {P:Program} {ops:Array Oper} {w:World} {Q:Act→Prop} {a:Act} (h:Q a):StillG P ops w Q [] a:=⟨wpStill_nil h⟩
theorem StillG.step {P:Program} {ops:Array Oper} {w:World} {Q:Act→Prop} {a:Act} {o:Oper} {rest:List Oper}
  (h:∀ K:Act→Prop,(∀ a,StillG P ops w Q rest a→K a)→if Region.wanted o (yielded ops a.tmps) then o.still P a w K else K (a.put o.dst undef)):StillG P ops w Q (o::rest) a :=
 ⟨wpStill_step fun K hK=>h K fun a ha=>hK a ha.out⟩
theorem wp_still_tailG {P:Program} {w:World} {id:Nat} {Q:Exit→Act→World→Prop} {a:Act} {l:List Oper} (n:Nat) (hm:P.follows .mixedOrders=true) (hB:Region.lexTailB .any l.toArray n=true)
  (h:StillG P l.toArray w.drew (fun a'=>wpList P l.toArray Q (l.drop n) a' w.drew) (l.take n) a):(Code.region id l.toArray true).wp P Q a w :=
 wp_region_still_tail n hm hB h.out
theorem ordB_can {a b:Nat} (h:canon a=canon b):ordB a b=0:=by
 have hk:keyB a=keyB b:=by
  unfold canon at h;unfold keyB;by_cases ha:Fl.isNaN a=true
  ·by_cases hb:Fl.isNaN b=true
   ·rw[if_pos ha,if_pos hb]
   ·rw[if_pos ha,if_neg hb]at h;subst h;exact absurd nan_cnan hb
  ·by_cases hb:Fl.isNaN b=true
   ·rw[if_neg ha,if_pos hb]at h;subst h;exact absurd nan_cnan ha
   ·rw[if_neg ha,if_neg hb]at h;rw[h]
 unfold ordB;rw[hk];simp
end
section
open Go.RowKit
def IffB (b:Bool) (P:Prop):Prop:=b=true↔P
theorem IffB.to {b:Bool} {P:Prop} (h:IffB b P):b=true↔P:=h
theorem ValAt.boxes {w:World} {d:Nat} {v:VT} {cs:Array Value} (h:ValAt w (d+1) v cs) {p:Option Addr} {cap:Nat} {z0 z1 z2 z3 z4:Value} (hc:cs=#[z0,z1,z2,z3,z4,.slice p v.items.length cap]) :
  ∀ i,i<v.items.length→∃ g off,p=some ⟨g,off,none⟩∧g<w.heap.size∧∃ ds,ValAt w d (v.items.getD i noVT) ds∧∀ j,j<6→w.cell? ⟨g,off+i*6+j,none⟩=ds[j]?:=by
 intro i hi;obtain⟨pn,pi,h1,_,_,_,_,_,_,h8⟩:=h;have h2:=hc.symm.trans h1;simp only[Array.mk.injEq,List.cons.injEq]at h2;have h3:=h2.2.2.2.2.2.1;rcases h8 with ⟨h8,_⟩|⟨g,off,c,h8,h9,h10⟩
 ·rw[h8]at hi;simp at hi
 ·rw[h8]at h3;injection h3 with h3 _ _
  exact⟨g,off,h3,h9,h10 i hi⟩
theorem ValAt.strs {w:World} {d:Nat} {v:VT} {cs:Array Value} (h:ValAt w (d+1) v cs) {z0 z1 z2 z3 z4 z5:Value} (hc:cs=#[z0,z1,z2,z3,z4,z5]):Strs w v.names z4∧F64 v.flt∧v.items.length≤140737488355328:=by
 obtain⟨pn,pi,h1,_,_,hf,_,h6,h7,_⟩:=h;have h2:=hc.symm.trans h1;simp only[Array.mk.injEq,List.cons.injEq]at h2;rw[h2.2.2.2.2.1];exact⟨h6,hf,h7⟩
theorem ValAt.ints {w:World} {d:Nat} {v:VT} {cs:Array Value} (h:ValAt w d v cs):(-9223372036854775808≤v.kind∧v.kind≤9223372036854775807)∧(-9223372036854775808≤v.num∧v.num≤9223372036854775807):=by
 rcases d with _|d
 ·exact h.elim
 ·obtain⟨pn,pi,h1,h2,h3,_⟩:=h;exact⟨h2,h3⟩
theorem rOrder_step (d d2:Nat) (a b:VT) (ca cb:Array Value) (w:World)
  (ih:∀ (d2:Nat) (a b:VT) (ca cb:Array Value) (w:World),ValAt w d a ca→ValAt w d2 b cb→Calls Tryz.prog 55 #[.agg ca,.agg cb] w (Gives (.int .i64 (ordV a b)) w))
  (ha:ValAt w (d+1) a ca) (hb:ValAt w (d2+1) b cb):Calls Tryz.prog 55 #[.agg ca,.agg cb] w (Gives (.int .i64 (ordV a b)) w):=by
 obtain⟨pp,pc,p,cap,hca⟩:=ha.sixS;obtain⟨pp',pc',p',cap',hcb⟩:=hb.sixS;have hia:=ha.boxes hca;have hib:=hb.boxes hcb;obtain⟨hsa,hfa,hNb⟩:=ha.strs hca;obtain⟨hsb,hfb,hNb'⟩:=hb.strs hcb;obtain⟨⟨kA1,kA2⟩,xA1,xA2⟩:=ha.ints;obtain⟨⟨kB1,kB2⟩,xB1,xB2⟩:=hb.ints;subst hca;subst hcb;clear ha hb;have hr0:=fun h=>ordV_ne (a:=a) (b:=b) h
 have hr1:=fun h k=>ordV_n (a:=a) (b:=b) h k
 have hr3:=fun h k=>ordV_f (a:=a) (b:=b) h k
 have hr4:=fun h k=>ordV_s (a:=a) (b:=b) h k
 have hrg:=fun h k1 k2 k3 k4=>ordV_gen (a:=a) (b:=b) h k1 k2 k3 k4
 have hp0:=fun h=>preO_l (a:=a) (b:=b) h
 have hp1:=fun h k l=>preO_n (a:=a) (b:=b) h k l
 have hp2:=fun h k l=>preO_s (a:=a) (b:=b) h k l
 have hq0:=fun h k=>headO_r (a:=a) (b:=b) h k
 have hq1:¬ (preO a b=0∧a.kind≠5)→headO a b=preO a b:=fun h=>by unfold headO;rw[if_neg h]
 have hstep:=fun i (h1:i<a.items.length) h2=>ordL_step (a:=a.items) (b:=b.items) (i:=i) h1 h2
 have hend:=fun i (h1:i≤a.items.length) h2 h3=>ordL_end (a:=a.items) (b:=b.items) (i:=i) h1 h2 h3
 have hft:=fun w=>rtext_ords a.str b.str w
 have hfo:=fun w=>rorder_any a.flt b.flt hfa hfb w
 generalize ordV a b=R at *;generalize preO a b=c1 at *;generalize headO a b=c2 at *;generalize a.kind=K at *;generalize b.kind=K' at *;generalize a.num=X at *;generalize b.num=X' at *;generalize txtO a.str b.str=T at *;generalize (⟨a.str.toArray⟩:ByteArray)=S at *;generalize (⟨b.str.toArray⟩:ByteArray)=S' at *;generalize ordB a.flt b.flt=FO at *;generalize a.flt=fa at *;generalize b.flt=fb at *;have hfw:=fun x (h:Below w.heap.size w x)=>rrows_any a.names b.names (.slice pp a.names.length pc) (.slice pp' b.names.length pc') x (hsa.kept h) (hsb.kept h)
 generalize rowsO a.names b.names=RO at *;generalize a.names.length=M at *;generalize b.names.length=M' at *;generalize a.items=its at *;generalize b.items=its' at *;generalize its.length=N at *;generalize its'.length=N' at *;have HP0:=zh hp0;have HP1:=zh hp1;have HP2:=zh hp2;have HQ0:=zh hq0;have HQ1:=zh hq1;have HStep:=zh hstep;have HEnd:=zh hend;have hB:Below w.heap.size w ((w.alloc (.cells #[.int .i64 K,.int .i64 X,.float .f64 fa,.string S,.slice pp M pc,.slice p N cap] 28)).alloc (.cells #[.int .i64 K',.int .i64 X',.float .f64 fb,.string S',.slice pp' M' pc',.slice p' N' cap'] 28)):=((Below.refl _ _).alloc (Nat.le_refl _) _).alloc (by simp) _;have e1:(w.alloc (.cells #[.int .i64 K,.int .i64 X,.float .f64 fa,.string S,.slice pp M pc,.slice p N cap] 28)).heap.size=w.heap.size+1:=by simp
 have hnA:((w.alloc (.cells #[.int .i64 K,.int .i64 X,.float .f64 fa,.string S,.slice pp M pc,.slice p N cap] 28)).alloc (.cells #[.int .i64 K',.int .i64 X',.float .f64 fb,.string S',.slice pp' M' pc',.slice p' N' cap'] 28)).heap[w.heap.size]?=some (.cells #[.int .i64 K,.int .i64 X,.float .f64 fa,.string S,.slice pp M pc,.slice p N cap] 28 (0,0)):=by
  rw[Lib.alloc_old _ _ _ (by simp)];exact heap_alloc_new w _
 have hnB:((w.alloc (.cells #[.int .i64 K,.int .i64 X,.float .f64 fa,.string S,.slice pp M pc,.slice p N cap] 28)).alloc (.cells #[.int .i64 K',.int .i64 X',.float .f64 fb,.string S',.slice pp' M' pc',.slice p' N' cap'] 28)).heap[w.heap.size+1]?=some (.cells #[.int .i64 K',.int .i64 X',.float .f64 fb,.string S',.slice pp' M' pc',.slice p' N' cap'] 28 (0,0)):=by
  have:=heap_alloc_new (w.alloc (.cells #[.int .i64 K,.int .i64 X,.float .f64 fa,.string S,.slice pp M pc,.slice p N cap] 28)) (.cells #[.int .i64 K',.int .i64 X',.float .f64 fb,.string S',.slice pp' M' pc',.slice p' N' cap'] 28);rwa [e1]at this
 have HBl:=zh (fun x (h:Below ((w.alloc (.cells #[.int .i64 K,.int .i64 X,.float .f64 fa,.string S,.slice pp M pc,.slice p N cap] 28)).alloc (.cells #[.int .i64 K',.int .i64 X',.float .f64 fb,.string S',.slice pp' M' pc',.slice p' N' cap'] 28)).heap.size ((w.alloc (.cells #[.int .i64 K,.int .i64 X,.float .f64 fa,.string S,.slice pp M pc,.slice p N cap] 28)).alloc (.cells #[.int .i64 K',.int .i64 X',.float .f64 fb,.string S',.slice pp' M' pc',.slice p' N' cap'] 28)) x)=>(show x.heap[w.heap.size]?=some (.cells #[.int .i64 K,.int .i64 X,.float .f64 fa,.string S,.slice pp M pc,.slice p N cap] 28 (0,0))∧x.heap[w.heap.size+1]?=some (.cells #[.int .i64 K',.int .i64 X',.float .f64 fb,.string S',.slice pp' M' pc',.slice p' N' cap'] 28 (0,0)) from⟨(h.block _ (lt_of_block hnA)).trans hnA,(h.block _ (lt_of_block hnB)).trans hnB⟩));have HIA:=zh (fun i (hi:i<N) x (h:Below ((w.alloc (.cells #[.int .i64 K,.int .i64 X,.float .f64 fa,.string S,.slice pp M pc,.slice p N cap] 28)).alloc (.cells #[.int .i64 K',.int .i64 X',.float .f64 fb,.string S',.slice pp' M' pc',.slice p' N' cap'] 28)).heap.size ((w.alloc (.cells #[.int .i64 K,.int .i64 X,.float .f64 fa,.string S,.slice pp M pc,.slice p N cap] 28)).alloc (.cells #[.int .i64 K',.int .i64 X',.float .f64 fb,.string S',.slice pp' M' pc',.slice p' N' cap'] 28)) x)=>(show ∃ g off,p=some ⟨g,off,none⟩∧∃ ds,ValAt x d (its.getD i noVT) ds∧x.cell? ⟨g,off+i*6+0,none⟩=ds[0]?∧x.cell? ⟨g,off+i*6+1,none⟩=ds[1]?∧x.cell? ⟨g,off+i*6+2,none⟩=ds[2]?∧x.cell? ⟨g,off+i*6+3,none⟩=ds[3]?∧x.cell? ⟨g,off+i*6+4,none⟩=ds[4]?∧x.cell? ⟨g,off+i*6+5,none⟩=ds[5]? from by
  obtain⟨g,off,h1,h2,ds,h3,h4⟩:=hia i hi;have hx:=hB.trans (h.mono hB.size);have hc:=fun j (hj:j<6)=>(hx.cell (p:=⟨g,off+i*6+j,none⟩) h2).trans (h4 j hj)
  exact⟨g,off,h1,ds,h3.kept hx,hc 0 (by omega),hc 1 (by omega),hc 2 (by omega),hc 3 (by omega),hc 4 (by omega),hc 5 (by omega)⟩))
 have HIB:=zh (fun i (hi:i<N') x (h:Below ((w.alloc (.cells #[.int .i64 K,.int .i64 X,.float .f64 fa,.string S,.slice pp M pc,.slice p N cap] 28)).alloc (.cells #[.int .i64 K',.int .i64 X',.float .f64 fb,.string S',.slice pp' M' pc',.slice p' N' cap'] 28)).heap.size ((w.alloc (.cells #[.int .i64 K,.int .i64 X,.float .f64 fa,.string S,.slice pp M pc,.slice p N cap] 28)).alloc (.cells #[.int .i64 K',.int .i64 X',.float .f64 fb,.string S',.slice pp' M' pc',.slice p' N' cap'] 28)) x)=>(show ∃ g off,p'=some ⟨g,off,none⟩∧∃ ds,ValAt x d2 (its'.getD i noVT) ds∧x.cell? ⟨g,off+i*6+0,none⟩=ds[0]?∧x.cell? ⟨g,off+i*6+1,none⟩=ds[1]?∧x.cell? ⟨g,off+i*6+2,none⟩=ds[2]?∧x.cell? ⟨g,off+i*6+3,none⟩=ds[3]?∧x.cell? ⟨g,off+i*6+4,none⟩=ds[4]?∧x.cell? ⟨g,off+i*6+5,none⟩=ds[5]? from by
  obtain⟨g,off,h1,h2,ds,h3,h4⟩:=hib i hi;have hx:=hB.trans (h.mono hB.size);have hc:=fun j (hj:j<6)=>(hx.cell (p:=⟨g,off+i*6+j,none⟩) h2).trans (h4 j hj)
  exact⟨g,off,h1,ds,h3.kept hx,hc 0 (by omega),hc 1 (by omega),hc 2 (by omega),hc 3 (by omega),hc 4 (by omega),hc 5 (by omega)⟩))
 have HW:=zh (fun x (h:Below ((w.alloc (.cells #[.int .i64 K,.int .i64 X,.float .f64 fa,.string S,.slice pp M pc,.slice p N cap] 28)).alloc (.cells #[.int .i64 K',.int .i64 X',.float .f64 fb,.string S',.slice pp' M' pc',.slice p' N' cap'] 28)).heap.size ((w.alloc (.cells #[.int .i64 K,.int .i64 X,.float .f64 fa,.string S,.slice pp M pc,.slice p N cap] 28)).alloc (.cells #[.int .i64 K',.int .i64 X',.float .f64 fb,.string S',.slice pp' M' pc',.slice p' N' cap'] 28)) x)=>hfw x (hB.trans (h.mono hB.size)));have HS:=zh (fun n m w=>rsign_any n m w);have HT:=zh hft;have HF:=zh hfo;have IH:=zh ih;have HR0:=zh hr0;have HR1:=zh hr1;have HR3:=zh hr3;have HR4:=zh hr4;have HRG:=zh hrg;clear hnA hnB e1 hia hib hsa hsb hfa hfb hfo hft hfw ih hp0 hp1 hp2 hq0 hq1 hstep hend hr0 hr1 hr3 hr4 hrg;generalize hgh:w.heap.size=H at *;have HH:=zh hgh;clear hgh;by_cases hk:K=K'
 ·subst hk;have HR1:=zh (HR1.out rfl);have HR3:=zh (HR3.out rfl);have HR4:=zh (HR4.out rfl);have HRG:=zh (HRG.out rfl);have t0:(K != K)=false:=by simp
  by_cases k1:K=1
  ·have HR:=zh (HR1.out (.inl k1));subst k1;go_in;go_upto_region 1 with (fail)
   rw[HH.out];generalize (w.alloc (.cells #[.int .i64 1,.int .i64 X,.float .f64 fa,.string S,.slice pp M pc,.slice p N cap] 28)).alloc (.cells #[.int .i64 1,.int .i64 X',.float .f64 fb,.string S',.slice pp' M' pc',.slice p' N' cap'] 28)=W1 at *;have nA:=(HBl.out _ (Below.refl _ _)).1;have nB:=(HBl.out _ (Below.refl _ _)).2;have a0:W1.cell? ⟨H,0,none⟩=some (.int .i64 1):=by rw[zc nA];rfl
   have b0:W1.cell? ⟨H+1,0,none⟩=some (.int .i64 1):=by rw[zc nB];rfl
   have a1:W1.cell? ⟨H,1,none⟩=some (.int .i64 X):=by rw[zc nA];rfl
   have b1:W1.cell? ⟨H+1,1,none⟩=some (.int .i64 X'):=by rw[zc nB];rfl
   have a2:W1.cell? ⟨H,2,none⟩=some (.float .f64 fa):=by rw[zc nA];rfl
   have b2:W1.cell? ⟨H+1,2,none⟩=some (.float .f64 fb):=by rw[zc nB];rfl
   have a3:W1.cell? ⟨H,3,none⟩=some (.string S):=by rw[zc nA];rfl
   have b3:W1.cell? ⟨H+1,3,none⟩=some (.string S'):=by rw[zc nB];rfl
   have a4:W1.cell? ⟨H,4,none⟩=some (.slice pp M pc):=by rw[zc nA];rfl
   have b4:W1.cell? ⟨H+1,4,none⟩=some (.slice pp' M' pc'):=by rw[zc nB];rfl
   have a5:W1.cell? ⟨H,5,none⟩=some (.slice p N cap):=by rw[zc nA];rfl
   have b5:W1.cell? ⟨H+1,5,none⟩=some (.slice p' N' cap'):=by rw[zc nB];rfl
   clear nA nB;go_wp2_with (go_at_call 87;refine(HS.out _ _ _).mono ?_;rintro e w' ⟨rfl,rfl⟩)
   go_ret;exact⟨ret_val (by rw[HR.out];rfl),by rw[HH.out];exact hB⟩
  by_cases k2:K=2
  ·have HR:=zh (HR1.out (.inr k2));subst k2;go_in;go_upto_region 1 with (fail)
   rw[HH.out];generalize (w.alloc (.cells #[.int .i64 2,.int .i64 X,.float .f64 fa,.string S,.slice pp M pc,.slice p N cap] 28)).alloc (.cells #[.int .i64 2,.int .i64 X',.float .f64 fb,.string S',.slice pp' M' pc',.slice p' N' cap'] 28)=W1 at *;have nA:=(HBl.out _ (Below.refl _ _)).1;have nB:=(HBl.out _ (Below.refl _ _)).2;have a0:W1.cell? ⟨H,0,none⟩=some (.int .i64 2):=by rw[zc nA];rfl
   have b0:W1.cell? ⟨H+1,0,none⟩=some (.int .i64 2):=by rw[zc nB];rfl
   have a1:W1.cell? ⟨H,1,none⟩=some (.int .i64 X):=by rw[zc nA];rfl
   have b1:W1.cell? ⟨H+1,1,none⟩=some (.int .i64 X'):=by rw[zc nB];rfl
   have a2:W1.cell? ⟨H,2,none⟩=some (.float .f64 fa):=by rw[zc nA];rfl
   have b2:W1.cell? ⟨H+1,2,none⟩=some (.float .f64 fb):=by rw[zc nB];rfl
   have a3:W1.cell? ⟨H,3,none⟩=some (.string S):=by rw[zc nA];rfl
   have b3:W1.cell? ⟨H+1,3,none⟩=some (.string S'):=by rw[zc nB];rfl
   have a4:W1.cell? ⟨H,4,none⟩=some (.slice pp M pc):=by rw[zc nA];rfl
   have b4:W1.cell? ⟨H+1,4,none⟩=some (.slice pp' M' pc'):=by rw[zc nB];rfl
   have a5:W1.cell? ⟨H,5,none⟩=some (.slice p N cap):=by rw[zc nA];rfl
   have b5:W1.cell? ⟨H+1,5,none⟩=some (.slice p' N' cap'):=by rw[zc nB];rfl
   clear nA nB;go_wp2_with (go_at_call 87;refine(HS.out _ _ _).mono ?_;rintro e w' ⟨rfl,rfl⟩)
   go_ret;exact⟨ret_val (by rw[HR.out];rfl),by rw[HH.out];exact hB⟩
  by_cases k3:K=3
  ·have HR:=zh (HR3.out k3);subst k3;go_in;go_upto_region 1 with (fail)
   rw[HH.out];generalize (w.alloc (.cells #[.int .i64 3,.int .i64 X,.float .f64 fa,.string S,.slice pp M pc,.slice p N cap] 28)).alloc (.cells #[.int .i64 3,.int .i64 X',.float .f64 fb,.string S',.slice pp' M' pc',.slice p' N' cap'] 28)=W1 at *;have nA:=(HBl.out _ (Below.refl _ _)).1;have nB:=(HBl.out _ (Below.refl _ _)).2;have a0:W1.cell? ⟨H,0,none⟩=some (.int .i64 3):=by rw[zc nA];rfl
   have b0:W1.cell? ⟨H+1,0,none⟩=some (.int .i64 3):=by rw[zc nB];rfl
   have a1:W1.cell? ⟨H,1,none⟩=some (.int .i64 X):=by rw[zc nA];rfl
   have b1:W1.cell? ⟨H+1,1,none⟩=some (.int .i64 X'):=by rw[zc nB];rfl
   have a2:W1.cell? ⟨H,2,none⟩=some (.float .f64 fa):=by rw[zc nA];rfl
   have b2:W1.cell? ⟨H+1,2,none⟩=some (.float .f64 fb):=by rw[zc nB];rfl
   have a3:W1.cell? ⟨H,3,none⟩=some (.string S):=by rw[zc nA];rfl
   have b3:W1.cell? ⟨H+1,3,none⟩=some (.string S'):=by rw[zc nB];rfl
   have a4:W1.cell? ⟨H,4,none⟩=some (.slice pp M pc):=by rw[zc nA];rfl
   have b4:W1.cell? ⟨H+1,4,none⟩=some (.slice pp' M' pc'):=by rw[zc nB];rfl
   have a5:W1.cell? ⟨H,5,none⟩=some (.slice p N cap):=by rw[zc nA];rfl
   have b5:W1.cell? ⟨H+1,5,none⟩=some (.slice p' N' cap'):=by rw[zc nB];rfl
   clear nA nB;go_wp2_with (go_at_call 88;refine(HF.out _).mono ?_;rintro e w' ⟨rfl,rfl⟩)
   go_ret;exact⟨ret_val (by rw[HR.out];rfl),by rw[HH.out];exact hB⟩
  by_cases k4:K=4
  ·have HR:=zh (HR4.out k4);subst k4;go_in;go_upto_region 1 with (fail)
   rw[HH.out];generalize (w.alloc (.cells #[.int .i64 4,.int .i64 X,.float .f64 fa,.string S,.slice pp M pc,.slice p N cap] 28)).alloc (.cells #[.int .i64 4,.int .i64 X',.float .f64 fb,.string S',.slice pp' M' pc',.slice p' N' cap'] 28)=W1 at *;have nA:=(HBl.out _ (Below.refl _ _)).1;have nB:=(HBl.out _ (Below.refl _ _)).2;have a0:W1.cell? ⟨H,0,none⟩=some (.int .i64 4):=by rw[zc nA];rfl
   have b0:W1.cell? ⟨H+1,0,none⟩=some (.int .i64 4):=by rw[zc nB];rfl
   have a1:W1.cell? ⟨H,1,none⟩=some (.int .i64 X):=by rw[zc nA];rfl
   have b1:W1.cell? ⟨H+1,1,none⟩=some (.int .i64 X'):=by rw[zc nB];rfl
   have a2:W1.cell? ⟨H,2,none⟩=some (.float .f64 fa):=by rw[zc nA];rfl
   have b2:W1.cell? ⟨H+1,2,none⟩=some (.float .f64 fb):=by rw[zc nB];rfl
   have a3:W1.cell? ⟨H,3,none⟩=some (.string S):=by rw[zc nA];rfl
   have b3:W1.cell? ⟨H+1,3,none⟩=some (.string S'):=by rw[zc nB];rfl
   have a4:W1.cell? ⟨H,4,none⟩=some (.slice pp M pc):=by rw[zc nA];rfl
   have b4:W1.cell? ⟨H+1,4,none⟩=some (.slice pp' M' pc'):=by rw[zc nB];rfl
   have a5:W1.cell? ⟨H,5,none⟩=some (.slice p N cap):=by rw[zc nA];rfl
   have b5:W1.cell? ⟨H+1,5,none⟩=some (.slice p' N' cap'):=by rw[zc nB];rfl
   clear nA nB;go_wp2_with (go_at_call 89;refine(HT.out _).mono ?_;rintro e w' ⟨rfl,rfl⟩)
   go_ret;exact⟨ret_val (by rw[HR.out];rfl),by rw[HH.out];exact hB⟩
  have t1:(K==1)=false:=beq_eq_false_iff_ne.2 k1;have t2:(K==2)=false:=beq_eq_false_iff_ne.2 k2;have t3:(K==3)=false:=beq_eq_false_iff_ne.2 k3;have t4:(K==4)=false:=beq_eq_false_iff_ne.2 k4;have HR:=zh (HRG.out k1 k2 k3 k4);clear k1 k2 k3 k4 HR0 HR1 HR3 HR4 HRG;go_in;go_upto_region 1 with (fail)
  rw[HH.out];generalize (w.alloc (.cells #[.int .i64 K,.int .i64 X,.float .f64 fa,.string S,.slice pp M pc,.slice p N cap] 28)).alloc (.cells #[.int .i64 K,.int .i64 X',.float .f64 fb,.string S',.slice pp' M' pc',.slice p' N' cap'] 28)=W1 at *;have nA:=(HBl.out _ (Below.refl _ _)).1;have nB:=(HBl.out _ (Below.refl _ _)).2;have a0:W1.cell? ⟨H,0,none⟩=some (.int .i64 K):=by rw[zc nA];rfl
  have b0:W1.cell? ⟨H+1,0,none⟩=some (.int .i64 K):=by rw[zc nB];rfl
  have a1:W1.cell? ⟨H,1,none⟩=some (.int .i64 X):=by rw[zc nA];rfl
  have b1:W1.cell? ⟨H+1,1,none⟩=some (.int .i64 X'):=by rw[zc nB];rfl
  have a2:W1.cell? ⟨H,2,none⟩=some (.float .f64 fa):=by rw[zc nA];rfl
  have b2:W1.cell? ⟨H+1,2,none⟩=some (.float .f64 fb):=by rw[zc nB];rfl
  have a3:W1.cell? ⟨H,3,none⟩=some (.string S):=by rw[zc nA];rfl
  have b3:W1.cell? ⟨H+1,3,none⟩=some (.string S'):=by rw[zc nB];rfl
  have a4:W1.cell? ⟨H,4,none⟩=some (.slice pp M pc):=by rw[zc nA];rfl
  have b4:W1.cell? ⟨H+1,4,none⟩=some (.slice pp' M' pc'):=by rw[zc nB];rfl
  have a5:W1.cell? ⟨H,5,none⟩=some (.slice p N cap):=by rw[zc nA];rfl
  have b5:W1.cell? ⟨H+1,5,none⟩=some (.slice p' N' cap'):=by rw[zc nB];rfl
  clear nA nB;have hBB:=Below.refl W1.heap.size W1;go_upto_region 12 with (fail)
  go_cut [48] (fun v wx=>∃ b,v=.bool b∧IffB b (K≠5∧K≠6)∧W1=wx)
  case first =>
   by_cases k5:K=5
   ·have n5:(K != 5)=false:=by rw[k5];rfl
    have hx:IffB false (K≠5∧K≠6):=⟨(fun h=>nomatch h),(fun h=>absurd k5 h.1)⟩;clear k5;go_wp2_with fail
    go_meet;exact⟨_,rfl,hx,rfl⟩
   ·have n5:(K != 5)=true:=by rw[bne_iff_ne];exact k5
    by_cases k6:K=6
    ·have n6:(K != 6)=false:=by rw[k6];rfl
     have hx:IffB false (K≠5∧K≠6):=⟨(fun h=>nomatch h),(fun h=>absurd k6 h.2)⟩;clear k5 k6;go_wp2_with fail
     go_meet;exact⟨_,rfl,hx,rfl⟩
    ·have n6:(K != 6)=true:=by rw[bne_iff_ne];exact k6
     have hx:IffB true (K≠5∧K≠6):=⟨fun _=>⟨k5,k6⟩,fun _=>rfl⟩;clear k5 k6;go_wp2_with fail
     go_meet;exact⟨_,rfl,hx,rfl⟩
  case rest =>
   obtain⟨b,rfl,hbk,hw⟩:=hcut;subst hw;go_upto_if 48 with (fail)
   go_cut [5] (fun v wx=>v=.int .i64 c1∧W1=wx)
   case first =>
    cases b
    ·have h0:c1=0:=HP0.out (by
      by_cases k5:K=5
      ·exact .inl k5
      ·by_cases k6:K=6
       ·exact .inr k6
       ·have:=hbk.to.2 ⟨k5,k6⟩;cases this)
     have h0:=zh h0;go_wp2_with fail
     go_meet;exact⟨by rw[h0.out],rfl⟩
    ·obtain⟨k5,k6⟩:=hbk.to.1 rfl;have HP1:=zh (HP1.out k5 k6);have HP2:=zh (HP2.out k5 k6);clear k5 k6;have HSg:=zh (fun w=>HS.out X X' w);generalize sgnI X X'=sg at *;by_cases hsg:sg=0
     ·have hc:=zh (HP2.out hsg);subst hsg;go_wp2_with (first|(go_at_call 87;refine(HSg.out _).mono ?_;rintro e w' ⟨rfl,rfl⟩)|(go_at_call 89;refine(HT.out _).mono ?_;rintro e w' ⟨rfl,rfl⟩))
      go_meet;exact⟨by rw[hc.out],rfl⟩
     ·have hc:=zh (HP1.out hsg);have tsg:(sg==0)=false:=beq_eq_false_iff_ne.2 hsg;clear hsg;go_wp2_with (first|(go_at_call 87;refine(HSg.out _).mono ?_;rintro e w' ⟨rfl,rfl⟩)|(go_at_call 89;refine(HT.out _).mono ?_;rintro e w' ⟨rfl,rfl⟩))
      go_meet;exact⟨by rw[hc.out],rfl⟩
   case rest =>
    obtain⟨rfl,hw⟩:=hcut;subst hw;clear hbk HP0 HP1 HP2;go_upto_region 16 with (fail)
    go_cut [67] (fun v wx=>∃ b,v=.bool b∧IffB b (c1=0∧K≠5)∧W1=wx)
    case first =>
     by_cases k1:c1=0
     ·have n1:(c1==0)=true:=by rw[k1];rfl
      by_cases k5:K=5
      ·have n5:(K != 5)=false:=by rw[k5];rfl
       have hx:IffB false (c1=0∧K≠5):=⟨(fun h=>nomatch h),(fun h=>absurd k5 h.2)⟩;clear k5 k1;go_wp2_with fail
       go_meet;exact⟨_,rfl,hx,rfl⟩
      ·have n5:(K != 5)=true:=by rw[bne_iff_ne];exact k5
       have hx:IffB true (c1=0∧K≠5):=⟨fun _=>⟨k1,k5⟩,fun _=>rfl⟩;clear k5 k1;go_wp2_with fail
       go_meet;exact⟨_,rfl,hx,rfl⟩
     ·have n1:(c1==0)=false:=beq_eq_false_iff_ne.2 k1;have hx:IffB false (c1=0∧K≠5):=⟨(fun h=>nomatch h),(fun h=>absurd h.1 k1)⟩;clear k1;go_wp2_with fail
      go_meet;exact⟨_,rfl,hx,rfl⟩
    case rest =>
     obtain⟨b,rfl,hbk,hw⟩:=hcut;subst hw;go_upto_if 67 with (fail)
     go_cut [5] (fun v wx=>v=.int .i64 c2∧Below W1.heap.size W1 wx)
     case first =>
      cases b
      ·have h0:c2=c1:=HQ1.out (fun h=>by have:=hbk.to.2 h;cases this)
       have h0:=zh h0;go_wp2_with fail
       go_meet;exact⟨by rw[h0.out],Below.refl _ _⟩
      ·have h0:=zh (HQ0.out (hbk.to.1 rfl).1 (hbk.to.1 rfl).2);go_wp2_with (go_at_call 90;refine(HW.out _ (Below.refl _ _)).mono ?_;rintro e w2 ⟨rfl,hw2⟩)
       go_meet;exact⟨by rw[h0.out],hw2⟩
     case rest =>
      obtain⟨rfl,hB2⟩:=hcut;clear hbk HQ0 HQ1 hBB HW HT HF;clear a0 b0 a1 b1 a2 b2 a3 b3 a4 b4 a5 b5;go_wp2_with fail
      go_loopw [5,6] (fun cv iv wr=>∃ (i:Nat) (c:Int),cv=.int .i64 c∧iv=.int .i64 (i:Int)∧i≤N∧i≤N'∧Hid (R=if c=0 then ordL (its.drop i) (its'.drop i) else c)∧Below W1.heap.size W1 wr) (fun _ iv _=>N - (intOf iv).toNat)
      case atStart=>exact⟨0,_,rfl,rfl,Nat.zero_le _,Nat.zero_le _,by show _=_;rw[List.drop_zero,List.drop_zero];exact HR.out,hB2⟩
      case round =>
       clear hB2 HR;obtain⟨i,c,rfl,rfl,hi,hi',hR,hb⟩:=hrel;have nA:=(HBl.out _ hb).1;have nB:=(HBl.out _ hb).2;have a0:wr.cell? ⟨H,0,none⟩=some (.int .i64 K):=by rw[zc nA];rfl
       have b0:wr.cell? ⟨H+1,0,none⟩=some (.int .i64 K):=by rw[zc nB];rfl
       have a1:wr.cell? ⟨H,1,none⟩=some (.int .i64 X):=by rw[zc nA];rfl
       have b1:wr.cell? ⟨H+1,1,none⟩=some (.int .i64 X'):=by rw[zc nB];rfl
       have a2:wr.cell? ⟨H,2,none⟩=some (.float .f64 fa):=by rw[zc nA];rfl
       have b2:wr.cell? ⟨H+1,2,none⟩=some (.float .f64 fb):=by rw[zc nB];rfl
       have a3:wr.cell? ⟨H,3,none⟩=some (.string S):=by rw[zc nA];rfl
       have b3:wr.cell? ⟨H+1,3,none⟩=some (.string S'):=by rw[zc nB];rfl
       have a4:wr.cell? ⟨H,4,none⟩=some (.slice pp M pc):=by rw[zc nA];rfl
       have b4:wr.cell? ⟨H+1,4,none⟩=some (.slice pp' M' pc'):=by rw[zc nB];rfl
       have a5:wr.cell? ⟨H,5,none⟩=some (.slice p N cap):=by rw[zc nA];rfl
       have b5:wr.cell? ⟨H+1,5,none⟩=some (.slice p' N' cap'):=by rw[zc nB];rfl
       clear nA nB;by_cases hc:c=0
       ·subst hc;replace hR:Hid (R=ordL (its.drop i) (its'.drop i)):=by show _=_;rw[hR.out,if_pos rfl]
        by_cases hlt:i<N
        ·have t0:decide ((i:Int)<(N:Int))=true:=by simp;omega
         by_cases hlm:i<N'
         ·have tm:decide ((i:Int)<(N':Int))=true:=by simp;omega
          obtain⟨gA,offA,rfl,dsA,hvaA,x0,x1,x2,x3,x4,x5⟩:=HIA.out i hlt _ hb;obtain⟨gB,offB,rfl,dsB,hvaB,y0,y1,y2,y3,y4,y5⟩:=HIB.out i hlm _ hb;obtain⟨q1,r1,s1,v1,rfl⟩:=hvaA.sixS;obtain⟨q2,r2,s2,v2,rfl⟩:=hvaB.sixS;simp at x0 x1 x2 x3 x4 x5 y0 y1 y2 y3 y4 y5;have i1:(0:Int)≤(i:Int):=by omega
          have i2:(i:Int)<(N:Int):=by omega
          have i3:(i:Int)<(N':Int):=by omega
          have HQ:=zh (IH.out d2 _ _ _ _ wr.drew (hvaA.kept ((Below.refl wr.heap.size wr).drew)) (hvaB.kept ((Below.refl wr.heap.size wr).drew)));have HSt:=zh (HStep.out i hlt hlm);clear hvaA hvaB;generalize ordV (its.getD i noVT) (its'.getD i noVT)=c' at *;go_wp2_with fail
          refine wp_still_tailG 10 (by kernel_rfl) (by kernel_rfl) ?_;simp only[List.take_succ_cons,List.take_zero,List.drop_succ_cons,List.drop_zero];iterate 10 (refine StillG.step (fun K hK=>?_);go_simp;refine hK _ ?_;clear hK K)
          refine StillG.nil ?_;go_wp2_with fail
          refine(HQ.out).mono ?_;rintro e w3 ⟨rfl,hb3⟩;go_wp2_with fail
          go_roundw
          case rel=>exact⟨i+1,c',rfl,by go_num,by omega,by omega,by show _=_;rw[hR.out,HSt.out],hb.trans ((undrew hb3).mono hb.size)⟩
          case measure=>simp[intOf];omega
         ·have tm:decide ((i:Int)<(N':Int))=false:=by simp;omega
          have HE:=zh (HEnd.out i hi hi' (.inr (by omega)));go_wp2_with (go_at_call 87;refine(HS.out _ _ _).mono ?_;rintro e w' ⟨rfl,rfl⟩)
          go_ret;exact⟨ret_val (by rw[hR.out,HE.out];rfl),by rw[HH.out];exact hB.trans (hb.mono (by have:=hB.size;rw[HH.out]at this;exact this))⟩
        ·have t0:decide ((i:Int)<(N:Int))=false:=by simp;omega
         have HE:=zh (HEnd.out i hi hi' (.inl (by omega)));go_wp2_with (go_at_call 87;refine(HS.out _ _ _).mono ?_;rintro e w' ⟨rfl,rfl⟩)
         go_ret;exact⟨ret_val (by rw[hR.out,HE.out];rfl),by rw[HH.out];exact hB.trans (hb.mono (by have:=hB.size;rw[HH.out]at this;exact this))⟩
       ·replace hR:Hid (R=c):=by show _=_;rw[hR.out,if_neg hc]
        have tc:(c==0)=false:=beq_eq_false_iff_ne.2 hc;clear hc;by_cases hlt:i<N
        ·have t0:decide ((i:Int)<(N:Int))=true:=by simp;omega
         by_cases hlm:i<N'
         ·have tm:decide ((i:Int)<(N':Int))=true:=by simp;omega
          go_wp2_with fail
          go_ret;exact⟨ret_val (by rw[hR.out];rfl),by rw[HH.out];exact hB.trans (hb.mono (by have:=hB.size;rw[HH.out]at this;exact this))⟩
         ·have tm:decide ((i:Int)<(N':Int))=false:=by simp;omega
          go_wp2_with fail
          go_ret;exact⟨ret_val (by rw[hR.out];rfl),by rw[HH.out];exact hB.trans (hb.mono (by have:=hB.size;rw[HH.out]at this;exact this))⟩
        ·have t0:decide ((i:Int)<(N:Int))=false:=by simp;omega
         go_wp2_with fail
         go_ret;exact⟨ret_val (by rw[hR.out];rfl),by rw[HH.out];exact hB.trans (hb.mono (by have:=hB.size;rw[HH.out]at this;exact this))⟩
 ·have t0:(K != K')=true:=by rw[bne_iff_ne];exact hk
  have HR:=zh (HR0.out hk);clear hk;go_in;go_upto_region 1 with (fail)
  rw[HH.out];generalize (w.alloc (.cells #[.int .i64 K,.int .i64 X,.float .f64 fa,.string S,.slice pp M pc,.slice p N cap] 28)).alloc (.cells #[.int .i64 K',.int .i64 X',.float .f64 fb,.string S',.slice pp' M' pc',.slice p' N' cap'] 28)=W1 at *;have nA:=(HBl.out _ (Below.refl _ _)).1;have nB:=(HBl.out _ (Below.refl _ _)).2;have a0:W1.cell? ⟨H,0,none⟩=some (.int .i64 K):=by rw[zc nA];rfl
  have b0:W1.cell? ⟨H+1,0,none⟩=some (.int .i64 K'):=by rw[zc nB];rfl
  have a1:W1.cell? ⟨H,1,none⟩=some (.int .i64 X):=by rw[zc nA];rfl
  have b1:W1.cell? ⟨H+1,1,none⟩=some (.int .i64 X'):=by rw[zc nB];rfl
  have a2:W1.cell? ⟨H,2,none⟩=some (.float .f64 fa):=by rw[zc nA];rfl
  have b2:W1.cell? ⟨H+1,2,none⟩=some (.float .f64 fb):=by rw[zc nB];rfl
  have a3:W1.cell? ⟨H,3,none⟩=some (.string S):=by rw[zc nA];rfl
  have b3:W1.cell? ⟨H+1,3,none⟩=some (.string S'):=by rw[zc nB];rfl
  have a4:W1.cell? ⟨H,4,none⟩=some (.slice pp M pc):=by rw[zc nA];rfl
  have b4:W1.cell? ⟨H+1,4,none⟩=some (.slice pp' M' pc'):=by rw[zc nB];rfl
  have a5:W1.cell? ⟨H,5,none⟩=some (.slice p N cap):=by rw[zc nA];rfl
  have b5:W1.cell? ⟨H+1,5,none⟩=some (.slice p' N' cap'):=by rw[zc nB];rfl
  clear nA nB;go_wp2_with (go_at_call 87;refine(HS.out _ _ _).mono ?_;rintro e w' ⟨rfl,rfl⟩)
  go_ret;exact⟨ret_val (by rw[HR.out];rfl),by rw[HH.out];exact hB⟩
theorem rOrder_any:∀ (d d2:Nat) (a b:VT) (ca cb:Array Value) (w:World),ValAt w d a ca→ValAt w d2 b cb→Calls Tryz.prog 55 #[.agg ca,.agg cb] w (Gives (.int .i64 (ordV a b)) w)
 | 0,_,_,_,_,_,_,ha,_=>ha.elim
 | _+1,0,_,_,_,_,_,_,hb=>hb.elim
 | d+1,d2+1,a,b,ca,cb,w,ha,hb=>rOrder_step d d2 a b ca cb w (fun d2 a b ca cb w=>rOrder_any d d2 a b ca cb w) ha hb
end
section
open Go
theorem rdV_step {f p:Nat} (k:UInt8) (l:List UInt8) (hp:p<200):rdV (f+1) p (k::l) =
  if k.toNat=1 then(match rdBool l with|none=>none|some r=>some (.mk 1 r.1 0 [] [] [],p+1,r.2))
  else if k.toNat=2 then(match rdInt l with|none=>none|some r=>some (.mk 2 r.1 0 [] [] [],p+1,r.2))
  else if k.toNat=3 then(match rdFlt l with|none=>none|some r=>some (.mk 3 0 r.1 [] [] [],p+1,r.2))
  else if k.toNat=4 then(match rdStr 200 l with|none=>none|some r=>some (.mk 4 0 0 r.1 [] [],p+1,r.2))
  else if k.toNat=5∨k.toNat=6 then
   match rdU l with
   | none=>none
   | some r=>if 200<r.1 then none else
     match rdItems (rdV f) (decide (k.toNat=6)) r.1 (p+1) r.2 with
     | none=>none
     | some c=>some (.mk (k.toNat:Nat) 0 0 [] c.1 c.2.1,c.2.2)
  else none:=by
 rw[rdV,if_neg (by omega)];rfl
theorem rdItems_enc (rv:Nat→List UInt8→Option (VT × Nat × List UInt8)) (named:Bool) :
  ∀ (its:List VT) (ns:List (List UInt8)) (p:Nat) (r:List UInt8),(named=true→ns.length=its.length∧∀ s ∈ ns,s.length≤30)→(named=false→ns=[]) →
   (∀ v ∈ its,∀ q r,q+psz v≤p+pszL its→rv q (encV v++r)=some (canV v,q+psz v,r)) →
   rdItems rv named its.length p (encL named ns its++r)=some (ns,canL its,p+pszL its,r)
 | [],ns,p,r,h1,h2,h3=>by
  have:ns=[]:=by
   cases named
   ·exact h2 rfl
   ·exact List.length_eq_zero_iff.1 (h1 rfl).1
  subst this;rfl
 | x::xs,ns,p,r,h1,h2,h3=>by
  have hx:=fun r=>h3 x (List.mem_cons_self ..) p r (by rw[pszL];omega)
  cases named
  ·have hn:=h2 rfl;subst hn;have ih:=rdItems_enc rv false xs [] (p+psz x) r (fun h=>by cases h) (fun _=>rfl) (fun v hv q r hq=>h3 v (List.mem_cons_of_mem _ hv) q r (by rw[pszL];omega))
   rw[List.length_cons,rdItems,encL];simp only[Bool.false_eq_true,if_false,List.nil_append,List.append_assoc,hx];rw[show([]:List (List UInt8)).tail=[] from rfl,ih];simp only[canL,pszL,Nat.add_assoc]
  ·obtain⟨hl,hs⟩:=h1 rfl;obtain⟨n,ns,rfl⟩:∃ n m,ns=n::m:=by
    cases ns with
    | nil=>simp at hl
    | cons n m=>exact⟨n,m,rfl⟩
   have hn:=hs n (List.mem_cons_self ..);have ih:=rdItems_enc rv true xs ns (p+psz x) r (fun _=>⟨by simpa using hl,fun s h=>hs s (List.mem_cons_of_mem _ h)⟩) (fun h=>by cases h) (fun v hv q r hq=>h3 v (List.mem_cons_of_mem _ hv) q r (by rw[pszL];omega))
   rw[List.length_cons,rdItems,encL];simp only[if_true,List.headD_cons,List.tail_cons,List.append_assoc];rw[rdStr_enc n _ hn (by omega)];simp only[hx,ih];simp only[canL,pszL,Nat.add_assoc]
theorem inL_mem:∀ {l:List VT},inL l→∀ v ∈ l,inV v
 | [],_,v,h=>by cases h
 | x::xs,h,v,hv=>by
  rw[inL]at h;rcases List.mem_cons.1 hv with rfl|hv
  ·exact h.1
  ·exact inL_mem h.2 v hv
theorem rightL_mem:∀ {l:List VT} {f:Nat},rightL l f=true→∀ v ∈ l,rightV v f=true
 | [],_,_,v,h=>by cases h
 | x::xs,f,h,v,hv=>by
  rw[rightL,Bool.and_eq_true]at h;rcases List.mem_cons.1 hv with rfl|hv
  ·exact h.1
  ·exact rightL_mem h.2 v hv
theorem right_lists {k n:Int} {f:Nat} {s:List UInt8} {ns:List (List UInt8)} {its:List VT} {far:Nat} (hk:k=5∨k=6) (h:rightV (.mk k n f s ns its) far=true) :
  f=0∧n=0∧s=[]∧rightL its (far - 1)=true∧0<far∧(k=5→ns=[])∧(k=6→risesB ns=true∧ns.length=its.length):=by
 rw[rightV]at h;split at h
 ·cases h
 rename_i hfar;have hfar':0<far:=by omega
 rcases hk with rfl|rfl
 ·simp only[if_false,if_true,show(5:Int)≠1 by decide,show(5:Int)≠2 by decide,show(5:Int)≠3 by decide,show(5:Int)≠4 by decide,Bool.and_eq_true,List.isEmpty_iff,decide_eq_true_eq,zeroB]at h;obtain⟨⟨⟨⟨h1,h2⟩,h3⟩,h4⟩,h5⟩:=h;exact⟨canon_zero h1,h2,h3,h5,hfar',fun _=>h4,(fun h=>by cases h)⟩
 ·simp only[if_false,if_true,show(6:Int)≠1 by decide,show(6:Int)≠2 by decide,show(6:Int)≠3 by decide,show(6:Int)≠4 by decide,show(6:Int)≠5 by decide,Bool.and_eq_true,List.isEmpty_iff,decide_eq_true_eq,zeroB]at h;obtain⟨⟨⟨⟨h1,h2⟩,h3⟩,h4⟩,h5⟩:=h;exact⟨canon_zero h1,h2,h3,h5,hfar',(fun h=>by cases h),fun _=>h4⟩
theorem right_kind {v:VT} {far:Nat} (h:rightV v far=true):v.kind=1∨v.kind=2∨v.kind=3∨v.kind=4∨v.kind=5∨v.kind=6:=by
 cases v with
 | mk k n f s ns its =>
  rw[rightV]at h;show k=1∨k=2∨k=3∨k=4∨k=5∨k=6;split at h
  ·cases h
  by_cases h1:k=1;· exact .inl h1
  by_cases h2:k=2;· exact .inr (.inl h2)
  by_cases h3:k=3;· exact .inr (.inr (.inl h3))
  by_cases h4:k=4;· exact .inr (.inr (.inr (.inl h4)))
  by_cases h5:k=5;· exact .inr (.inr (.inr (.inr (.inl h5))))
  by_cases h6:k=6;· exact .inr (.inr (.inr (.inr (.inr h6))))
  rw[if_neg h1,if_neg h2,if_neg h3,if_neg h4,if_neg h5,if_neg h6]at h;cases h
/-- written and read -/
theorem rdV_enc:∀ (far:Nat) (v:VT) (p:Nat) (r:List UInt8),rightV v far=true→inV v→p+psz v≤200→rdV far p (encV v++r)=some (canV v,p+psz v,r)
 | 0,v,p,r,h,_,_=>by
  cases v with
  | mk k n f s ns its=>rw[rightV,if_pos (by omega)]at h;cases h
 | far+1,.mk k n f s ns its,p,r,h,hin,hp=>by
  have hp0:p<200:=by rw[psz]at hp;omega
  have hpz:=pszL_ge its;rw[psz]at hp;rw[encV,List.cons_append,rdV_step _ _ hp0];rw[inV]at hin;obtain⟨_,hn,hf,hins⟩:=hin;have hk:=right_kind h;have hk':k=1∨k=2∨k=3∨k=4∨k=5∨k=6:=hk;clear hk;rcases hk' with rfl|rfl|rfl|rfl|hk
  ·rw[rightV,if_neg (by omega)]at h;simp only[if_true,Bool.and_eq_true,List.isEmpty_iff,decide_eq_true_eq,zeroB]at h;obtain⟨⟨⟨⟨h1,h2⟩,h3⟩,h4⟩,h5⟩:=h;have h3:=canon_zero h3;subst h1 h2 h3 h4;rcases h5 with rfl|rfl<;>rfl
  ·rw[rightV,if_neg (by omega)]at h;simp only[if_true,if_false,show(2:Int)≠1 by decide,Bool.and_eq_true,List.isEmpty_iff,decide_eq_true_eq,zeroB]at h;obtain⟨⟨⟨h1,h2⟩,h3⟩,h4⟩:=h;have h3:=canon_zero h3;subst h1 h2 h3 h4;rw[if_neg (by decide),if_pos (by decide)];simp only[if_true,if_false,show(2:Int)≠1 by decide];unfold rdInt;rw[rdU_enc r (zig_lt hn)];simp only[zag_zig,canV,canL,psz,pszL,show canon 0=0 from rfl]
  ·rw[rightV,if_neg (by omega)]at h;simp only[if_true,if_false,show(3:Int)≠1 by decide,show(3:Int)≠2 by decide,Bool.and_eq_true,List.isEmpty_iff,decide_eq_true_eq]at h;obtain⟨⟨⟨h1,h2⟩,h3⟩,h4⟩:=h;subst h1 h2 h3 h4;rw[if_neg (by decide),if_neg (by decide),if_pos (by decide)];simp only[if_true,if_false,show(3:Int)≠1 by decide,show(3:Int)≠2 by decide];unfold rdFlt;have hl:(fltE (canon f)).length=8:=rfl;rw[if_neg (by rw[List.length_append,hl];omega),List.take_left' hl,List.drop_left' hl,beN_fltE _ (canon_F64 hf).out,if_pos (canon_canon f)];rfl
  ·rw[rightV,if_neg (by omega)]at h;simp only[if_true,if_false,show(4:Int)≠1 by decide,show(4:Int)≠2 by decide,show(4:Int)≠3 by decide,Bool.and_eq_true,List.isEmpty_iff,decide_eq_true_eq,zeroB]at h;obtain⟨⟨⟨⟨h1,h2⟩,h3⟩,h4⟩,h5⟩:=h;have h3:=canon_zero h3;subst h1 h2 h3 h4;rw[if_neg (by decide),if_neg (by decide),if_neg (by decide),if_pos (by decide)];simp only[if_true,if_false,show(4:Int)≠1 by decide,show(4:Int)≠2 by decide,show(4:Int)≠3 by decide];rw[rdStr_enc s r h5 (by omega)];rfl
  ·obtain⟨rfl,rfl,rfl,hr,hfar,h5,h6⟩:=right_lists hk h;have ha:=rdItems_enc (rdV far) (decide (k=6)) its ns (p+1) r
    (fun hd=>by
     obtain⟨a,b⟩:=h6 (of_decide_eq_true hd);exact⟨b,rises_len a⟩)
    (fun hd=>h5 (by have:=of_decide_eq_false hd;omega))
    (fun v hv q r hq=>rdV_enc far v q r (rightL_mem hr v hv) (inL_mem hins v hv) (by omega))
   have hlen:its.length<18446744073709551616:=by omega
   have hkk:(UInt8.ofNat k.toNat).toNat=k.toNat:=by rcases hk with rfl|rfl<;>rfl
   have hd:decide (k.toNat=6)=decide (k=6):=by rcases hk with rfl|rfl<;>rfl
   rw[hkk,if_neg (by omega),if_neg (by omega),if_neg (by omega),if_neg (by omega),if_pos (by omega),if_neg (by omega),if_neg (by omega),if_neg (by omega),if_neg (by omega),List.append_assoc,rdU_enc _ hlen,hd];simp only;rw[if_neg (by omega),ha];simp only[Option.some.injEq,Prod.mk.injEq,canV,psz,show canon 0=0 from rfl,VT.mk.injEq,and_true];omega
theorem rdVal_enc {v:VT} (r:List UInt8) (h:rightB v=true) (hin:inV v) (hc:rightB (canV v)=true):rdVal (encV v++r)=some (canV v,r):=by
 obtain⟨h1,h2⟩:=(rightB_iff v).1 h;unfold rdVal;rw[rdV_enc 12 v 0 r h2 hin (by omega)];simp only[hc,if_true]
end
section
open Go
theorem right0 (v:VT):rightV v 0=false:=by cases v;rw[rightV];rfl
theorem right1 {v:VT} {f:Nat} (hk:v.kind=1):rightV v (f+1)=(bareV v true false false false&&decide (v.num=0∨v.num=1)):=by
 cases v with
 | mk k n fl s ns its =>
  have hk:k=1:=hk;subst hk;rw[rightV,if_neg (by omega),if_pos rfl];unfold bareV VT.num VT.flt VT.str VT.names VT.items;rw[Bool.eq_iff_iff];simp only[Bool.true_or,Bool.false_or,Bool.true_and,Bool.and_eq_true,decide_eq_true_eq];constructor
  ·rintro⟨⟨⟨⟨a,b⟩,c⟩,d⟩,e⟩;exact⟨⟨c,d,b,a⟩,e⟩
  ·rintro⟨⟨c,d,b,a⟩,e⟩;exact⟨⟨⟨⟨a,b⟩,c⟩,d⟩,e⟩
theorem right2 {v:VT} {f:Nat} (hk:v.kind=2):rightV v (f+1)=bareV v true false false false:=by
 cases v with
 | mk k n fl s ns its =>
  have hk:k=2:=hk;subst hk;rw[rightV,if_neg (by omega),if_neg (by omega),if_pos rfl];unfold bareV VT.num VT.flt VT.str VT.names VT.items;rw[Bool.eq_iff_iff];simp only[Bool.true_or,Bool.false_or,Bool.true_and,Bool.and_eq_true];constructor
  ·rintro⟨⟨⟨a,b⟩,c⟩,d⟩;exact⟨c,d,b,a⟩
  ·rintro⟨c,d,b,a⟩;exact⟨⟨⟨a,b⟩,c⟩,d⟩
theorem right3 {v:VT} {f:Nat} (hk:v.kind=3):rightV v (f+1)=bareV v false true false false:=by
 cases v with
 | mk k n fl s ns its =>
  have hk:k=3:=hk;subst hk;rw[rightV,if_neg (by omega),if_neg (by omega),if_neg (by omega),if_pos rfl];unfold bareV VT.num VT.flt VT.str VT.names VT.items;rw[Bool.eq_iff_iff];simp only[Bool.true_or,Bool.false_or,Bool.true_and,Bool.and_eq_true];constructor
  ·rintro⟨⟨⟨a,b⟩,c⟩,d⟩;exact⟨c,d,b,a⟩
  ·rintro⟨c,d,b,a⟩;exact⟨⟨⟨a,b⟩,c⟩,d⟩
theorem right4 {v:VT} {f:Nat} (hk:v.kind=4):rightV v (f+1)=(bareV v false false true false&&decide (v.str.length≤200)):=by
 cases v with
 | mk k n fl s ns its =>
  have hk:k=4:=hk;subst hk;rw[rightV,if_neg (by omega),if_neg (by omega),if_neg (by omega),if_neg (by omega),if_pos rfl];unfold bareV VT.num VT.flt VT.str VT.names VT.items;rw[Bool.eq_iff_iff];simp only[Bool.true_or,Bool.false_or,Bool.true_and,Bool.and_eq_true,decide_eq_true_eq];constructor
  ·rintro⟨⟨⟨⟨a,b⟩,c⟩,d⟩,e⟩;exact⟨⟨d,c,b,a⟩,e⟩
  ·rintro⟨⟨d,c,b,a⟩,e⟩;exact⟨⟨⟨⟨a,b⟩,c⟩,d⟩,e⟩
theorem right5 {v:VT} {f:Nat} (hk:v.kind=5):rightV v (f+1)=(bareV v false false false true&&(decide (v.names.length=0)&&rightL v.items f)):=by
 cases v with
 | mk k n fl s ns its =>
  have hk:k=5:=hk;subst hk;rw[rightV,if_neg (by omega),if_neg (by omega),if_neg (by omega),if_neg (by omega),if_neg (by omega),if_pos rfl];unfold bareV VT.num VT.flt VT.str VT.names VT.items;rw[Bool.eq_iff_iff];simp only[Bool.true_or,Bool.false_or,Bool.and_true,Bool.and_eq_true,decide_eq_true_eq,Nat.add_sub_cancel,List.length_eq_zero_iff,List.isEmpty_iff];constructor
  ·rintro⟨⟨⟨⟨a,b⟩,c⟩,d⟩,e⟩;exact⟨⟨b,a,c⟩,d,e⟩
  ·rintro⟨⟨b,a,c⟩,d,e⟩;exact⟨⟨⟨⟨a,b⟩,c⟩,d⟩,e⟩
theorem right6 {v:VT} {f:Nat} (hk:v.kind=6):rightV v (f+1)=(decide (v.names.length=v.items.length)&&(risesB v.names&&(bareV v false false false true&&rightL v.items f))):=by
 cases v with
 | mk k n fl s ns its =>
  have hk:k=6:=hk;subst hk;rw[rightV,if_neg (by omega),if_neg (by omega),if_neg (by omega),if_neg (by omega),if_neg (by omega),if_neg (by omega),if_pos rfl];unfold bareV VT.num VT.flt VT.str VT.names VT.items;rw[Bool.eq_iff_iff];simp only[Bool.true_or,Bool.false_or,Bool.and_true,Bool.and_eq_true,decide_eq_true_eq,Nat.add_sub_cancel,List.isEmpty_iff];constructor
  ·rintro⟨⟨⟨⟨a,b⟩,c⟩,d,e⟩,f⟩;exact⟨e,d,⟨b,a,c⟩,f⟩
  ·rintro⟨e,d,⟨b,a,c⟩,f⟩;exact⟨⟨⟨⟨a,b⟩,c⟩,d,e⟩,f⟩
theorem rightX {v:VT} {f:Nat} (h1:v.kind≠1) (h2:v.kind≠2) (h3:v.kind≠3) (h4:v.kind≠4) (h5:v.kind≠5) (h6:v.kind≠6):rightV v f=false:=by
 cases hr:rightV v f with
 | false=>rfl
 | true=>rcases right_kind hr with h|h|h|h|h|h<;>exact absurd h ‹_›
theorem rightL_drop {l:List VT} {i f:Nat} (hi:i<l.length):rightL (l.drop i) f=(rightV (l.getD i noVT) f&&rightL (l.drop (i+1)) f):=by
 have e:l.getD i noVT=l[i]:=by simp[List.getD,hi]
 rw[List.drop_eq_getElem_cons hi,rightL,e]
theorem rightL_end {l:List VT} {i f:Nat} (hi:l.length≤i):rightL (l.drop i) f=true:=by
 rw[List.drop_eq_nil_of_le hi,rightL]
end
end Go.Proofs.YtepaaochgljcdaaGreatDoor
