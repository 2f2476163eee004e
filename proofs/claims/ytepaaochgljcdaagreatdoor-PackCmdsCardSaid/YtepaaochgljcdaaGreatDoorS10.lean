/-
  Ga, Yr, A1, A5, A6, A7, A4, Ae in one text.
-/
import Derived.Test.YtepaaochgljcdaaGreatDoorS09
import Derived.Test.YtepaaochgljcdaaGreatDoorCl
set_option maxRecDepth 100000
set_option maxHeartbeats 4000000
namespace Go.Proofs.YtepaaochgljcdaaGreatDoor
section
open Go.RowKit
theorem rbegin5_any (s:ByteArray) (k:Nat) (hk:k≤s.size) (w:World) :
  Calls Tryz.prog 25 #[.string s,.int .i64 (k:Int)] w fun e w'=>e=.returned (.pointer (some ⟨w.heap.size,0,none⟩))∧RdAt w.heap.size s (some (s.data.toList.drop k)) 0 w'∧Below w.heap.size w w':=by
 have t0:decide ((k:Int)<0)=false:=by simp
 have t1:decide ((s.size:Int)<(k:Int))=false:=by simp;omega
 have t1':¬ s.size<k:=by omega
 have hO:RdAt w.heap.size s (some (s.data.toList.drop k)) 0 (w.alloc (.cells #[.string s,.int .i64 (k:Int),.int .i64 0,.int .i64 0] 77)):=⟨k,0,heap_alloc_new w _,hk,(fun l h=>by cases h;exact⟨rfl,rfl⟩),(fun h=>nomatch h)⟩
 have hB:Below w.heap.size w (w.alloc (.cells #[.string s,.int .i64 (k:Int),.int .i64 0,.int .i64 0] 77)):=(Below.refl _ _).alloc (Nat.le_refl _) _;go_in;go_wp2_with fail
 go_ret;exact⟨rfl,hO,hB⟩
theorem at_len {s:ByteArray} {k:Nat} {l:List UInt8} (hk:k≤s.size) (hl:l=s.data.toList.drop k):s.size - l.length=k:=by
 have hL:s.data.toList.length=s.size:=by simp
 rw[hl,List.length_drop,hL];omega
/-- what ReadValue answers -/
def RvRet (s:ByteArray) (w:World) (r:Option (VT × List UInt8)) (e:Ending) (w':World):Prop:=match r with
 | some x=>∃ cs,e=.returned (.tuple #[.agg cs,.int .i64 ((s.size - x.2.length:Nat):Int),.int .i64 0])∧ValIn (fun g=>w.heap.size≤g) w' 13 x.1 cs∧Below w.heap.size w w'
 | none=>∃ x,x≠0∧e=.returned (.tuple #[.agg #[.int .i64 0,.int .i64 0,.float .f64 0,.string ⟨#[]⟩,.slice none 0 0,.slice none 0 0],.int .i64 0,.int .i64 x])∧Below w.heap.size w w'
theorem rReadValue_any (s:ByteArray) (hs:s.size≤1000000) (k:Nat) (hk:k≤s.size) (w:World) :
  Calls Tryz.prog 92 #[.string s,.int .i64 (k:Int)] w (RvRet s w (rdVal (s.data.toList.drop k))):=by
 have hsf:∀ (a:Addr) (x:Nat) (m:Mode) (w:World),(store a (.float .f64 x) m).run Tryz.prog w=stored Tryz.prog w a (.float .f64 x) m:=fun a x m w=>run_store _ w a _ m rfl
 have HBg:=zh (fun w=>rbegin5_any s k hk w);have HV:=zh (fun b (w:World) (h:RdAt b s (some (s.data.toList.drop k)) 0 w)=>(show Calls Tryz.prog 129 #[.pointer (some ⟨b,0,none⟩),.int .i64 1] w (RVal b s 12 w (rdV 12 0 (s.data.toList.drop k))) from rdsV_all s hs b 12 (by omega) 1 _ 0 w (by omega) (by omega) h));have hval:rdVal (s.data.toList.drop k)=match rdV 12 0 (s.data.toList.drop k) with|none=>none|some r=>if rightB r.1 then some (r.1,r.2.2) else none:=rfl
 generalize rdVal (s.data.toList.drop k)=R at *;generalize rdV 12 0 (s.data.toList.drop k)=r at *;have HVal:=zh hval;clear hval;have hg0:(w.alloc (.cells #[.int .i64 0,.int .i64 0,.float .f64 0,.string ⟨#[]⟩,.slice none 0 0,.slice none 0 0] 28)).heap[w.heap.size]?=some (.cells #[.int .i64 0,.int .i64 0,.float .f64 0,.string ⟨#[]⟩,.slice none 0 0,.slice none 0 0] 28 (0,0)):=heap_alloc_new w _;have hB0:Below w.heap.size w (w.alloc (.cells #[.int .i64 0,.int .i64 0,.float .f64 0,.string ⟨#[]⟩,.slice none 0 0,.slice none 0 0] 28)):=(Below.refl _ _).alloc (Nat.le_refl _) _;generalize hgh:w.heap.size=P at *;have HP:=zh hgh;clear hgh;go_in;go_wp2_with fail
 rw[HP.out];generalize w.alloc (.cells #[.int .i64 0,.int .i64 0,.float .f64 0,.string ⟨#[]⟩,.slice none 0 0,.slice none 0 0] 28)=W0 at *;refine(HBg.out _).mono ?_;rintro e w1 ⟨rfl,h1,hb1⟩;have hPb:P<W0.heap.size:=lt_of_block hg0;have hg1:=(hb1.block P hPb).trans hg0;have hB1:Below P w w1:=hB0.trans (hb1.mono (by omega));clear hg0 hB0 hb1;generalize W0.heap.size=b at *;have hr1:=h1;obtain⟨k3,e3,hgr,hkr,g1,g2⟩:=hr1;have r2:w1.cell? ⟨b,2,none⟩=some (.int .i64 e3):=by rw[zc hgr];rfl
 obtain⟨h0,_⟩:=g1 _ rfl;subst h0;clear g1 g2 hgr;go_wp2_with fail
 refine(HV.out b w1 h1).mono ?_;rintro e w2 ⟨v,cs,q,st,rfl,V2,h2,hf2,hres⟩;obtain⟨na,nl,nc,ia,il,ic,rfl⟩:=V2.six;have hg2:=hf2.at hg1 (by simp;omega);have hB2:Below P w w2:=hB1.trans (hf2.below (by have:=h1.lt;omega) (by simp;omega));clear hg1 r2 hf2;go_upto_region 5 with (fail)
 have hgQ:(w2.alloc (.cells #[.int .i64 v.kind,.int .i64 v.num,.float .f64 v.flt,.string ⟨v.str.toArray⟩,.slice na nl nc,.slice ia il ic] 28)).heap[w2.heap.size]?=some (.cells #[.int .i64 v.kind,.int .i64 v.num,.float .f64 v.flt,.string ⟨v.str.toArray⟩,.slice na nl nc,.slice ia il ic] 28 (0,0)):=heap_alloc_new w2 _;have hgP:=(Lib.alloc_old w2 (.cells #[.int .i64 v.kind,.int .i64 v.num,.float .f64 v.flt,.string ⟨v.str.toArray⟩,.slice na nl nc,.slice ia il ic] 28) P (lt_of_block hg2)).trans hg2;have h3:=h2.below ((Below.refl _ _).alloc (Nat.le_refl _) (.cells #[.int .i64 v.kind,.int .i64 v.num,.float .f64 v.flt,.string ⟨v.str.toArray⟩,.slice na nl nc,.slice ia il ic] 28));have hB3:=hB2.alloc (by have:=lt_of_block hg2;omega) (.cells #[.int .i64 v.kind,.int .i64 v.num,.float .f64 v.flt,.string ⟨v.str.toArray⟩,.slice na nl nc,.slice ia il ic] 28);have V3:=V2.grown (T:=fun g=>P<g) (World.grownBy_alloc w2 (.cells #[.int .i64 v.kind,.int .i64 v.num,.float .f64 v.flt,.string ⟨v.str.toArray⟩,.slice na nl nc,.slice ia il ic] 28) none) (fun g hg _=>⟨by have:=h1.lt;omega,by simp⟩);have hPQ:P<w2.heap.size:=lt_of_block hg2;have hbQ:=h2.lt;clear hg2 h2 V2 hB2;generalize w2.alloc (.cells #[.int .i64 v.kind,.int .i64 v.num,.float .f64 v.flt,.string ⟨v.str.toArray⟩,.slice na nl nc,.slice ia il ic] 28)=w3 at *;generalize w2.heap.size=Q at *;have hHV:=HVal.out;cases r with
 | none =>
  have hres:st=none:=hres;subst hres;have HN:=zh (show R=none from hHV);clear hHV V3 hgQ;obtain⟨k9,e9,hgr,hkr,g1,g2⟩:=h3;have r2:w3.cell? ⟨b,2,none⟩=some (.int .i64 e9):=by rw[zc hgr];rfl
  have t1:(e9==0)=false:=beq_eq_false_iff_ne.2 (g2 rfl);have t2:(e9 != 0)=true:=by rw[bne_iff_ne];exact g2 rfl
  have HX:=zh (g2 rfl);clear g1 g2 hgr;have e0:w3.cell? ⟨P,0,none⟩=some (.int .i64 0):=by rw[zc hgP];rfl
  have z0:w3.frozen? ⟨P,0,none⟩=false:=Lib.frozen_of_heap hgP 0;have e1:w3.cell? ⟨P,1,none⟩=some (.int .i64 0):=by rw[zc hgP];rfl
  have z1:w3.frozen? ⟨P,1,none⟩=false:=Lib.frozen_of_heap hgP 1;have e2:w3.cell? ⟨P,2,none⟩=some (.float .f64 0):=by rw[zc hgP];rfl
  have z2:w3.frozen? ⟨P,2,none⟩=false:=Lib.frozen_of_heap hgP 2;have e3:w3.cell? ⟨P,3,none⟩=some (.string ⟨#[]⟩):=by rw[zc hgP];rfl
  have z3:w3.frozen? ⟨P,3,none⟩=false:=Lib.frozen_of_heap hgP 3;have e4:w3.cell? ⟨P,4,none⟩=some (.slice none 0 0):=by rw[zc hgP];rfl
  have z4:w3.frozen? ⟨P,4,none⟩=false:=Lib.frozen_of_heap hgP 4;have e5:w3.cell? ⟨P,5,none⟩=some (.slice none 0 0):=by rw[zc hgP];rfl
  have z5:w3.frozen? ⟨P,5,none⟩=false:=Lib.frozen_of_heap hgP 5;have hgF:(((((((w3).setCell ⟨P,0,none⟩ (.int .i64 0)).setCell ⟨P,1,none⟩ (.int .i64 0)).setCell ⟨P,2,none⟩ (.float .f64 0)).setCell ⟨P,3,none⟩ (.string ⟨#[]⟩)).setCell ⟨P,4,none⟩ (.slice none 0 0)).setCell ⟨P,5,none⟩ (.slice none 0 0)).heap[P]?=some (.cells #[.int .i64 0,.int .i64 0,.float .f64 0,.string ⟨#[]⟩,.slice none 0 0,.slice none 0 0] 28 (0,0)):=heap_setN (heap_setN (heap_setN (heap_setN (heap_setN (heap_setN (show w3.heap[P]?=_ from hgP) 0 _) 1 _) 2 _) 3 _) 4 _) 5 _;have FF:=((((((Fr.refl [P] w3).setCell ⟨P,0,none⟩ (by simp) (.int .i64 0)).setCell ⟨P,1,none⟩ (by simp) (.int .i64 0)).setCell ⟨P,2,none⟩ (by simp) (.float .f64 0)).setCell ⟨P,3,none⟩ (by simp) (.string ⟨#[]⟩)).setCell ⟨P,4,none⟩ (by simp) (.slice none 0 0)).setCell ⟨P,5,none⟩ (by simp) (.slice none 0 0);go_wp2_with fail
  go_region_law (fail)
  all_goals
   clear e0 z0 e1 z1 e2 z2 e3 z3 e4 z4 e5 z5;go_wp2_with fail
   generalize ((((((w3).setCell ⟨P,0,none⟩ (.int .i64 0)).setCell ⟨P,1,none⟩ (.int .i64 0)).setCell ⟨P,2,none⟩ (.float .f64 0)).setCell ⟨P,3,none⟩ (.string ⟨#[]⟩)).setCell ⟨P,4,none⟩ (.slice none 0 0)).setCell ⟨P,5,none⟩ (.slice none 0 0)=X at *;obtain⟨y0,y1,y2,y3,y4,y5⟩:=cells6 hgF;refine bodyPost_ret (v:=.tuple #[.agg #[.int .i64 0,.int .i64 0,.float .f64 0,.string ⟨#[]⟩,.slice none 0 0,.slice none 0 0],.int .i64 0,.int .i64 e9]) (by simp[results,Tryz.results92,go_sem,y0,y1,y2,y3,y4,y5]) rfl ?_;rw[HN.out];exact⟨e9,HX.out,rfl,by rw[HP.out];exact hB3.trans (FF.below (by have:=lt_of_block hgP;omega) (by simp)).drew⟩
 | some x =>
  obtain⟨x1,x2,x3⟩:=x;obtain⟨hv1,hv2,hv3⟩:=hres;dsimp only at hv1 hv2 hv3 hHV;subst hv1;subst hv2;subst hv3;have hr3:=h3;obtain⟨k4,e4,hgr,hkr,g1,g2⟩:=hr3;have r2:w3.cell? ⟨b,2,none⟩=some (.int .i64 e4):=by rw[zc hgr];rfl
  obtain⟨h0,_⟩:=g1 _ rfl;subst h0;clear g1 g2 hgr;have HR:=zh (rRight_any 13 v _ w3 V3.at);obtain⟨q0,q1,q2,q3,q4,q5⟩:=cells6 hgQ;cases hrb:rightB v with
  | false =>
   rw[hrb]at HR hHV;have HN:=zh (show R=none from by simpa using hHV);have HF:=zh (fun st (w:World) (h:RdAt b s st q w)=>rfail_any 5 (by decide) b q s st w h);clear hHV hrb V3;go_wp2_with fail
   refine(HR.out).mono ?_;rintro e w4 ⟨rfl,hb4⟩;have h4:=h3.below hb4;have hgP4:=(hb4.block _ (lt_of_block hgP)).trans hgP;have hB4:Below P w w4:=hB3.trans (hb4.mono (by have:=lt_of_block hgP;omega));clear hgP hB3 h3 q0 q1 q2 q3 q4 q5 r2 hb4 hgQ;go_wp2_with fail
   refine(HF.out _ _ h4).mono ?_;rintro e w5 ⟨rfl,h5,hf5⟩;have hgP5:=hf5.at hgP4 (by simp;omega);have hB5:Below P w w5:=hB4.trans (hf5.below (by have:=lt_of_block hgP4;omega) (by simp;omega));clear hgP4 hB4 h4 hf5;obtain⟨k9,e9,hgr,hkr,g1,g2⟩:=h5;have r2:w5.cell? ⟨b,2,none⟩=some (.int .i64 e9):=by rw[zc hgr];rfl
   have t1:(e9==0)=false:=beq_eq_false_iff_ne.2 (g2 rfl);have t2:(e9 != 0)=true:=by rw[bne_iff_ne];exact g2 rfl
   have HX:=zh (g2 rfl);clear g1 g2 hgr;have e0:w5.cell? ⟨P,0,none⟩=some (.int .i64 0):=by rw[zc hgP5];rfl
   have z0:w5.frozen? ⟨P,0,none⟩=false:=Lib.frozen_of_heap hgP5 0;have e1:w5.cell? ⟨P,1,none⟩=some (.int .i64 0):=by rw[zc hgP5];rfl
   have z1:w5.frozen? ⟨P,1,none⟩=false:=Lib.frozen_of_heap hgP5 1;have e2:w5.cell? ⟨P,2,none⟩=some (.float .f64 0):=by rw[zc hgP5];rfl
   have z2:w5.frozen? ⟨P,2,none⟩=false:=Lib.frozen_of_heap hgP5 2;have e3:w5.cell? ⟨P,3,none⟩=some (.string ⟨#[]⟩):=by rw[zc hgP5];rfl
   have z3:w5.frozen? ⟨P,3,none⟩=false:=Lib.frozen_of_heap hgP5 3;have e4:w5.cell? ⟨P,4,none⟩=some (.slice none 0 0):=by rw[zc hgP5];rfl
   have z4:w5.frozen? ⟨P,4,none⟩=false:=Lib.frozen_of_heap hgP5 4;have e5:w5.cell? ⟨P,5,none⟩=some (.slice none 0 0):=by rw[zc hgP5];rfl
   have z5:w5.frozen? ⟨P,5,none⟩=false:=Lib.frozen_of_heap hgP5 5;have hgF:(((((((w5).setCell ⟨P,0,none⟩ (.int .i64 0)).setCell ⟨P,1,none⟩ (.int .i64 0)).setCell ⟨P,2,none⟩ (.float .f64 0)).setCell ⟨P,3,none⟩ (.string ⟨#[]⟩)).setCell ⟨P,4,none⟩ (.slice none 0 0)).setCell ⟨P,5,none⟩ (.slice none 0 0)).heap[P]?=some (.cells #[.int .i64 0,.int .i64 0,.float .f64 0,.string ⟨#[]⟩,.slice none 0 0,.slice none 0 0] 28 (0,0)):=heap_setN (heap_setN (heap_setN (heap_setN (heap_setN (heap_setN (show w5.heap[P]?=_ from hgP5) 0 _) 1 _) 2 _) 3 _) 4 _) 5 _;have FF:=((((((Fr.refl [P] w5).setCell ⟨P,0,none⟩ (by simp) (.int .i64 0)).setCell ⟨P,1,none⟩ (by simp) (.int .i64 0)).setCell ⟨P,2,none⟩ (by simp) (.float .f64 0)).setCell ⟨P,3,none⟩ (by simp) (.string ⟨#[]⟩)).setCell ⟨P,4,none⟩ (by simp) (.slice none 0 0)).setCell ⟨P,5,none⟩ (by simp) (.slice none 0 0);go_wp2_with fail
   go_region_law (fail)
   all_goals
    clear e0 z0 e1 z1 e2 z2 e3 z3 e4 z4 e5 z5;go_wp2_with fail
    generalize ((((((w5).setCell ⟨P,0,none⟩ (.int .i64 0)).setCell ⟨P,1,none⟩ (.int .i64 0)).setCell ⟨P,2,none⟩ (.float .f64 0)).setCell ⟨P,3,none⟩ (.string ⟨#[]⟩)).setCell ⟨P,4,none⟩ (.slice none 0 0)).setCell ⟨P,5,none⟩ (.slice none 0 0)=X at *;obtain⟨y0,y1,y2,y3,y4,y5⟩:=cells6 hgF;refine bodyPost_ret (v:=.tuple #[.agg #[.int .i64 0,.int .i64 0,.float .f64 0,.string ⟨#[]⟩,.slice none 0 0,.slice none 0 0],.int .i64 0,.int .i64 e9]) (by simp[results,Tryz.results92,go_sem,y0,y1,y2,y3,y4,y5]) rfl ?_;rw[HN.out];exact⟨e9,HX.out,rfl,by rw[HP.out];exact hB5.trans (FF.below (by have:=lt_of_block hgP5;omega) (by simp)).drew⟩
  | true =>
   rw[hrb]at HR hHV;have HN:=zh (show R=some (v,x3) from by simpa using hHV);clear hHV hrb;go_wp2_with fail
   refine(HR.out).mono ?_;rintro e w4 ⟨rfl,hb4⟩;have h4:=h3.below hb4;have hgP4:=(hb4.block _ (lt_of_block hgP)).trans hgP;have hgQ4:=(hb4.block _ (lt_of_block hgQ)).trans hgQ;have hB4:Below P w w4:=hB3.trans (hb4.mono (by have:=lt_of_block hgP;omega));have V4:=V3.kept (T:=fun g=>P<g) hb4.size (fun g hg hl=>⟨hg,hb4.block g hl⟩);clear hgP hB3 h3 q0 q1 q2 q3 q4 q5 r2 hb4 hgQ V3;obtain⟨k9,e9,hgr,hkr9,g1,g2⟩:=h4;have r1:w4.cell? ⟨b,1,none⟩=some (.int .i64 (k9:Int)):=by rw[zc hgr];rfl
   have r2:w4.cell? ⟨b,2,none⟩=some (.int .i64 e9):=by rw[zc hgr];rfl
   obtain⟨h0,hl9⟩:=g1 _ rfl;subst h0;have HK:=zh (at_len hkr9 hl9);clear g1 g2 hgr hl9;obtain⟨q0,q1,q2,q3,q4,q5⟩:=cells6 hgQ4;have e0:w4.cell? ⟨P,0,none⟩=some (.int .i64 0):=by rw[zc hgP4];rfl
   have z0:w4.frozen? ⟨P,0,none⟩=false:=Lib.frozen_of_heap hgP4 0;have e1:w4.cell? ⟨P,1,none⟩=some (.int .i64 0):=by rw[zc hgP4];rfl
   have z1:w4.frozen? ⟨P,1,none⟩=false:=Lib.frozen_of_heap hgP4 1;have e2:w4.cell? ⟨P,2,none⟩=some (.float .f64 0):=by rw[zc hgP4];rfl
   have z2:w4.frozen? ⟨P,2,none⟩=false:=Lib.frozen_of_heap hgP4 2;have e3:w4.cell? ⟨P,3,none⟩=some (.string ⟨#[]⟩):=by rw[zc hgP4];rfl
   have z3:w4.frozen? ⟨P,3,none⟩=false:=Lib.frozen_of_heap hgP4 3;have e4:w4.cell? ⟨P,4,none⟩=some (.slice none 0 0):=by rw[zc hgP4];rfl
   have z4:w4.frozen? ⟨P,4,none⟩=false:=Lib.frozen_of_heap hgP4 4;have e5:w4.cell? ⟨P,5,none⟩=some (.slice none 0 0):=by rw[zc hgP4];rfl
   have z5:w4.frozen? ⟨P,5,none⟩=false:=Lib.frozen_of_heap hgP4 5;have hgF:(((((((w4).setCell ⟨P,0,none⟩ (.int .i64 v.kind)).setCell ⟨P,1,none⟩ (.int .i64 v.num)).setCell ⟨P,2,none⟩ (.float .f64 v.flt)).setCell ⟨P,3,none⟩ (.string ⟨v.str.toArray⟩)).setCell ⟨P,4,none⟩ (.slice na nl nc)).setCell ⟨P,5,none⟩ (.slice ia il ic)).heap[P]?=some (.cells #[.int .i64 v.kind,.int .i64 v.num,.float .f64 v.flt,.string ⟨v.str.toArray⟩,.slice na nl nc,.slice ia il ic] 28 (0,0)):=heap_setN (heap_setN (heap_setN (heap_setN (heap_setN (heap_setN (show w4.heap[P]?=_ from hgP4) 0 _) 1 _) 2 _) 3 _) 4 _) 5 _;have FF:=((((((Fr.refl [P] w4).setCell ⟨P,0,none⟩ (by simp) (.int .i64 v.kind)).setCell ⟨P,1,none⟩ (by simp) (.int .i64 v.num)).setCell ⟨P,2,none⟩ (by simp) (.float .f64 v.flt)).setCell ⟨P,3,none⟩ (by simp) (.string ⟨v.str.toArray⟩)).setCell ⟨P,4,none⟩ (by simp) (.slice na nl nc)).setCell ⟨P,5,none⟩ (by simp) (.slice ia il ic);have V5:=V4.fr (l:=[P]) FF (fun g hg=>by simp at hg;subst hg;exact Nat.lt_irrefl _);have hB5:Below P w (((((((w4).setCell ⟨P,0,none⟩ (.int .i64 v.kind)).setCell ⟨P,1,none⟩ (.int .i64 v.num)).setCell ⟨P,2,none⟩ (.float .f64 v.flt)).setCell ⟨P,3,none⟩ (.string ⟨v.str.toArray⟩)).setCell ⟨P,4,none⟩ (.slice na nl nc)).setCell ⟨P,5,none⟩ (.slice ia il ic)):=hB4.trans (FF.below (by have:=lt_of_block hgP4;omega) (by simp));go_wp2_with fail
   go_region_law (fail)
   all_goals
    clear e0 z0 q0 e1 z1 q1 e2 z2 q2 e3 z3 q3 e4 z4 q4 e5 z5 q5 r1 r2;go_wp2_with fail
    generalize ((((((w4).setCell ⟨P,0,none⟩ (.int .i64 v.kind)).setCell ⟨P,1,none⟩ (.int .i64 v.num)).setCell ⟨P,2,none⟩ (.float .f64 v.flt)).setCell ⟨P,3,none⟩ (.string ⟨v.str.toArray⟩)).setCell ⟨P,4,none⟩ (.slice na nl nc)).setCell ⟨P,5,none⟩ (.slice ia il ic)=X at *;obtain⟨y0,y1,y2,y3,y4,y5⟩:=cells6 hgF;refine bodyPost_ret (v:=.tuple #[.agg #[.int .i64 v.kind,.int .i64 v.num,.float .f64 v.flt,.string ⟨v.str.toArray⟩,.slice na nl nc,.slice ia il ic],.int .i64 (k9:Int),.int .i64 0]) (by simp[results,Tryz.results92,go_sem,y0,y1,y2,y3,y4,y5]) rfl ?_;rw[HN.out];refine⟨_,?_,V5.kept (Nat.le_refl _) (fun g hg _=>⟨by have:=HP.out;omega,rfl⟩),by rw[HP.out];exact hB5.drew⟩;dsimp only;rw[HK.out]
end
section
open Go.RowKit
theorem ReadValue_any (s:ByteArray) (hs:s.size≤100000000) (k:Nat) (hk:k≤s.size) (w:World) :
  Calls Tryz.prog 86 #[.string s,.int .i64 (k:Int)] w (RvalPost s (rdVal (s.data.toList.drop k)) w):=by
 have hmf:∀ (fn:Fn) (first cap:Array Value) (w:World),(Instr.makeFunc fn first cap).run Tryz.prog w=.ok (.func fn first cap) w:=fun _ _ _ _=>rfl
 have hsf:∀ (a:Addr) (x:Nat) (m:Mode) (w:World),(store a (.float .f64 x) m).run Tryz.prog w=stored Tryz.prog w a (.float .f64 x) m:=fun a x m w=>run_store _ w a _ m rfl
 have hen:=enters_rv;have hg0:(w.alloc (.cells #[.int .i64 0,.int .i64 0,.float .f64 0,.string ⟨#[]⟩,.slice none 0 0,.slice none 0 0] 28)).heap[w.heap.size]?=some (.cells #[.int .i64 0,.int .i64 0,.float .f64 0,.string ⟨#[]⟩,.slice none 0 0,.slice none 0 0] 28 (0,0)):=heap_alloc_new w _;have hf0:=(Fr.refl [] w).alloc (.cells #[.int .i64 0,.int .i64 0,.float .f64 0,.string ⟨#[]⟩,.slice none 0 0,.slice none 0 0] 28);have hsz:(w.alloc (.cells #[.int .i64 0,.int .i64 0,.float .f64 0,.string ⟨#[]⟩,.slice none 0 0,.slice none 0 0] 28)).heap.size=w.heap.size+1:=by simp
 have HR:=reads_any s k hk 126 w.heap.size hen (restV (rdVal (s.data.toList.drop k))) (ValThere (w.heap.size+4) (w.heap.size+3) w.heap.size (rdVal (s.data.toList.drop k))) (w.alloc (.cells #[.int .i64 0,.int .i64 0,.float .f64 0,.string ⟨#[]⟩,.slice none 0 0,.slice none 0 0] 28)) (by simp)
  (fun w1 w2 h1 h2 x hx=>by
   obtain⟨cs,k1,k2⟩:=h1 x hx;rw[hsz]at h2;exact⟨cs,h2.at k1 (by simp;omega),k2.fr h2 (fun g hg hn=>by simp at hg;have:=hn.1;omega)⟩)
  (fun W hb hf hz=>by
   rw[hsz]at hb hz ⊢
   exact rv1_any s hs _ k w.heap.size (w.heap.size+4) hk (by omega) W (by omega) hb (hf.at hg0 (by simp)))
 generalize rdVal (s.data.toList.drop k)=r at *;generalize hG:w.heap.size=G at *;have HGG:=zh hG;clear hG;have HG:=zh hg0;clear hg0;cases r with
 | none =>
  have HR:=zh HR;go_in;go_wp2_with fail
  rw[HGG.out];refine(HR.out).mono ?_;rintro e w1 ⟨⟨x,hx,rfl⟩,hf1⟩;have hg1:=hf1.at HG.out (by simp);have hf01:=hf0.trans hf1;have c0:w1.cell? ⟨G,0,none⟩=some (.int .i64 0):=by rw[zc hg1];rfl
  have z0:w1.frozen? ⟨G,0,none⟩=false:=Lib.frozen_of_heap hg1 0;have c1:w1.cell? ⟨G,1,none⟩=some (.int .i64 0):=by rw[zc hg1];rfl
  have z1:w1.frozen? ⟨G,1,none⟩=false:=Lib.frozen_of_heap hg1 1;have c2:w1.cell? ⟨G,2,none⟩=some (.float .f64 0):=by rw[zc hg1];rfl
  have z2:w1.frozen? ⟨G,2,none⟩=false:=Lib.frozen_of_heap hg1 2;have c3:w1.cell? ⟨G,3,none⟩=some (.string ⟨#[]⟩):=by rw[zc hg1];rfl
  have z3:w1.frozen? ⟨G,3,none⟩=false:=Lib.frozen_of_heap hg1 3;have c4:w1.cell? ⟨G,4,none⟩=some (.slice none 0 0):=by rw[zc hg1];rfl
  have z4:w1.frozen? ⟨G,4,none⟩=false:=Lib.frozen_of_heap hg1 4;have c5:w1.cell? ⟨G,5,none⟩=some (.slice none 0 0):=by rw[zc hg1];rfl
  have z5:w1.frozen? ⟨G,5,none⟩=false:=Lib.frozen_of_heap hg1 5;have hgF:(((((((w1).setCell ⟨G,0,none⟩ (.int .i64 0)).setCell ⟨G,1,none⟩ (.int .i64 0)).setCell ⟨G,2,none⟩ (.float .f64 0)).setCell ⟨G,3,none⟩ (.string ⟨#[]⟩)).setCell ⟨G,4,none⟩ (.slice none 0 0)).setCell ⟨G,5,none⟩ (.slice none 0 0)).heap[G]?=some (.cells #[.int .i64 0,.int .i64 0,.float .f64 0,.string ⟨#[]⟩,.slice none 0 0,.slice none 0 0] 28 (0,0)):=heap_setN (heap_setN (heap_setN (heap_setN (heap_setN (heap_setN hg1 0 _) 1 _) 2 _) 3 _) 4 _) 5 _;have FF:=((((((Fr.refl [G] w1).setCell ⟨G,0,none⟩ (by simp) (.int .i64 0)).setCell ⟨G,1,none⟩ (by simp) (.int .i64 0)).setCell ⟨G,2,none⟩ (by simp) (.float .f64 0)).setCell ⟨G,3,none⟩ (by simp) (.string ⟨#[]⟩)).setCell ⟨G,4,none⟩ (by simp) (.slice none 0 0)).setCell ⟨G,5,none⟩ (by simp) (.slice none 0 0);go_wp2_with fail
  clear c0 z0 c1 z1 c2 z2 c3 z3 c4 z4 c5 z5;generalize ((((((w1).setCell ⟨G,0,none⟩ (.int .i64 0)).setCell ⟨G,1,none⟩ (.int .i64 0)).setCell ⟨G,2,none⟩ (.float .f64 0)).setCell ⟨G,3,none⟩ (.string ⟨#[]⟩)).setCell ⟨G,4,none⟩ (.slice none 0 0)).setCell ⟨G,5,none⟩ (.slice none 0 0)=X at *;obtain⟨y0,y1,y2,y3,y4,y5⟩:=cells6 hgF;refine bodyPost_ret (v:=.tuple #[.agg #[.int .i64 0,.int .i64 0,.float .f64 0,.string ⟨#[]⟩,.slice none 0 0,.slice none 0 0],.int .i64 0,.int .i64 x]) (by simp[results,Tryz.results86,go_sem,y0,y1,y2,y3,y4,y5]) rfl ?_;exact⟨⟨x,hx,rfl⟩,((hf01.mono (m:=[G]) (by simp)).trans FF).below (Nat.le_refl _) (by simp;exact Nat.le_of_eq HGG.out)⟩
 | some r =>
  obtain⟨v,l⟩:=r;have HR:=zh HR;generalize hk2:s.size - l.length=k2 at *;have HK2:=zh hk2;clear hk2;go_in;go_wp2_with fail
  rw[HGG.out];refine(HR.out).mono ?_;rintro e w1 ⟨he,hf1,hP⟩;have he2:e=.returned (.tuple #[.int .i64 (k2:Int),.int .i64 0]):=by rw[he,←HK2.out]
  subst he2;clear he;obtain⟨cs,hg1,hv1⟩:=hP _ rfl;obtain⟨na,nl,nc,ia,il,ic,rfl⟩:=hv1.six;clear hP;have hf01:=(hf0.mono (m:=[G]) (by simp)).trans hf1;have c0:w1.cell? ⟨G,0,none⟩=some (.int .i64 v.kind):=by rw[zc hg1];rfl
  have z0:w1.frozen? ⟨G,0,none⟩=false:=Lib.frozen_of_heap hg1 0;have c1:w1.cell? ⟨G,1,none⟩=some (.int .i64 v.num):=by rw[zc hg1];rfl
  have z1:w1.frozen? ⟨G,1,none⟩=false:=Lib.frozen_of_heap hg1 1;have c2:w1.cell? ⟨G,2,none⟩=some (.float .f64 v.flt):=by rw[zc hg1];rfl
  have z2:w1.frozen? ⟨G,2,none⟩=false:=Lib.frozen_of_heap hg1 2;have c3:w1.cell? ⟨G,3,none⟩=some (.string ⟨v.str.toArray⟩):=by rw[zc hg1];rfl
  have z3:w1.frozen? ⟨G,3,none⟩=false:=Lib.frozen_of_heap hg1 3;have c4:w1.cell? ⟨G,4,none⟩=some (.slice na nl nc):=by rw[zc hg1];rfl
  have z4:w1.frozen? ⟨G,4,none⟩=false:=Lib.frozen_of_heap hg1 4;have c5:w1.cell? ⟨G,5,none⟩=some (.slice ia il ic):=by rw[zc hg1];rfl
  have z5:w1.frozen? ⟨G,5,none⟩=false:=Lib.frozen_of_heap hg1 5;have hgF:(((((((w1).setCell ⟨G,0,none⟩ (.int .i64 v.kind)).setCell ⟨G,1,none⟩ (.int .i64 v.num)).setCell ⟨G,2,none⟩ (.float .f64 v.flt)).setCell ⟨G,3,none⟩ (.string ⟨v.str.toArray⟩)).setCell ⟨G,4,none⟩ (.slice na nl nc)).setCell ⟨G,5,none⟩ (.slice ia il ic)).heap[G]?=some (.cells #[.int .i64 v.kind,.int .i64 v.num,.float .f64 v.flt,.string ⟨v.str.toArray⟩,.slice na nl nc,.slice ia il ic] 28 (0,0)):=heap_setN (heap_setN (heap_setN (heap_setN (heap_setN (heap_setN hg1 0 _) 1 _) 2 _) 3 _) 4 _) 5 _;have FF:=((((((Fr.refl [G] w1).setCell ⟨G,0,none⟩ (by simp) (.int .i64 v.kind)).setCell ⟨G,1,none⟩ (by simp) (.int .i64 v.num)).setCell ⟨G,2,none⟩ (by simp) (.float .f64 v.flt)).setCell ⟨G,3,none⟩ (by simp) (.string ⟨v.str.toArray⟩)).setCell ⟨G,4,none⟩ (by simp) (.slice na nl nc)).setCell ⟨G,5,none⟩ (by simp) (.slice ia il ic);go_wp2_with fail
  clear c0 z0 c1 z1 c2 z2 c3 z3 c4 z4 c5 z5;generalize ((((((w1).setCell ⟨G,0,none⟩ (.int .i64 v.kind)).setCell ⟨G,1,none⟩ (.int .i64 v.num)).setCell ⟨G,2,none⟩ (.float .f64 v.flt)).setCell ⟨G,3,none⟩ (.string ⟨v.str.toArray⟩)).setCell ⟨G,4,none⟩ (.slice na nl nc)).setCell ⟨G,5,none⟩ (.slice ia il ic)=X at *;obtain⟨y0,y1,y2,y3,y4,y5⟩:=cells6 hgF;refine bodyPost_ret (v:=.tuple #[.agg #[.int .i64 v.kind,.int .i64 v.num,.float .f64 v.flt,.string ⟨v.str.toArray⟩,.slice na nl nc,.slice ia il ic],.int .i64 (k2:Int),.int .i64 0]) (by simp[results,Tryz.results86,go_sem,y0,y1,y2,y3,y4,y5]) rfl ?_;exact⟨_,by rw[←HK2.out],hv1.kept FF.size (fun k hk hl=>⟨by have:=hk.1;have:=HGG.out;omega,FF.block k hl (by have:=hk.1;simp;omega)⟩),(hf01.trans FF).below (Nat.le_refl _) (by simp;exact Nat.le_of_eq HGG.out)⟩
end
section
open Go.RowKit
theorem bt_snap:BT 87:=⟨by kernel_rfl,by decide⟩
theorem must_yes (w:World):Calls Tryz.prog 45 #[.bool true,.int .i64 5] w fun e w'=>e=.returned (.tuple #[])∧w=w':=by
 go_in;go_wp2_with fail
 go_end0;exact⟨rfl,rfl⟩
theorem must_no (w:World):Calls Tryz.prog 45 #[.bool false,.int .i64 5] w fun e w'=>e=gave 5∧w=w':=by
 go_in;go_wp2_with fail
 exact⟨rfl,rfl,rfl⟩
def inN (n:Int):Bool:=decide (0≤n)&&decide (n≤10000)
/-- the bytes of counts, or none -/
def numsE:List Int→Option (List UInt8)
 | []=>some []
 | n::l=>if inN n then(match numsE l with|none=>none|some r=>some (uintS n.toNat++r)) else none
/-- a writer wrote, or gave up -/
def WrOr (T:TypeId) (B b:Nat) (o:List UInt8) (r:Option (List UInt8)) (w:World) (e:Ending) (w':World):Prop :=
 match r with
 | some q=>e=.returned (.tuple #[])∧Bld T B b (o++q) w'∧Wrote B b w w'
 | none=>e=gave 5∧Below B w w'
theorem numsE_len:∀ (l:List Int) (r:List UInt8),numsE l=some r→r.length≤10*l.length
 | [],r,h=>by cases h;simp
 | n::l,r,h=>by
  rw[numsE]at h;split at h
  ·split at h
   ·cases h
   ·rename_i q hq;cases h
    have:=numsE_len l q hq;have:=uintS_len n.toNat;simp;omega
  ·cases h
/-- the first counts written, the others still to come -/
theorem numsE_drop {l:List Int} {i:Nat} (h:i<l.length):numsE (l.drop i)=if inN (l.getD i 0) then(match numsE (l.drop (i+1)) with|none=>none|some r=>some (uintS (l.getD i 0).toNat++r)) else none:=by
 have e:l.getD i 0=l[i]:=by simp[List.getD,h]
 rw[List.drop_eq_getElem_cons h,numsE,e]
def preB (q:List UInt8):Option (List UInt8)→Option (List UInt8)
 | none=>none
 | some r=>some (q++r)
theorem preB_nil (r:Option (List UInt8)):preB [] r=r:=by cases r<;>rfl
theorem preB_app (p q:List UInt8) (r:Option (List UInt8)):preB (p++q) r=preB p (preB q r):=by
 cases r
 ·rfl
 ·simp[preB]
theorem snum_any (l:List Int) (N:Nat) (cs:Array Value) (hN:l.length=N) (hcs:(l.map (Value.int .i64)).toArray=cs) (hl:N≤20) (g B b:Nat) (o:List UInt8) (ho:o.length≤90000000) (w:World) (hb:Bld 87 B b o w)
  (hg:w.heap[g]?=some (.cells cs 3 (0,0))) :
  Calls Tryz.prog 17 #[.pointer (some ⟨b,0,none⟩),.slice (some ⟨g,0,none⟩) N N] w (WrOr 87 B b o (numsE l) w):=by
 subst hcs;have hne:g≠b:=by
  rintro rfl;rcases hb.2 with h|h<;>obtain⟨_,v,h,_⟩:=h<;>rw[hg]at h<;>injection h with h<;>injection h with _ h<;>exact absurd h (by decide)
 have HW:=zh (fun(o:List UInt8) (w:World) (h:Bld 87 B b o w) (l:List UInt8) (hlen:o.length+l.length≤100000000)=>h.writeS bt_snap l hlen);have HU:=zh (fun n h w=>cUint_any n h w);have HMy:=zh must_yes;have HMn:=zh must_no;have HG:=zh hg;clear hg;have HN:=zh hN;clear hN;go_in;go_wp2_with fail
 go_loopw [8] (fun v wr=>∃ (i:Nat) (q:List UInt8),v=.int .i64 (i:Int)∧i≤N∧q.length≤10*i∧Hid (numsE l=preB q (numsE (l.drop i)))∧Bld 87 B b (o++q) wr∧Wrote B b w wr) (fun v _=>N - (intOf v).toNat)
 case atStart=>exact⟨0,[],rfl,by omega,by simp,by show _=_;rw[preB_nil,List.drop_zero],by rw[List.append_nil];exact hb,Wrote.refl _ _ _⟩
 case round =>
  obtain⟨i,q,rfl,hi,hq,hE,hbd,hwr⟩:=hrel;have hgr:=hwr.block HG.out hne (by decide);by_cases hlt:i<N
  ·have t0:decide ((i:Int)<(N:Int))=true:=by simp;omega
   have hlen:i<l.length:=by rw[HN.out];exact hlt
   have c0:wr.cell? ⟨g,i,none⟩=some (.int .i64 (l.getD i 0)):=by
    rw[zc hgr];simp[List.getD,hlen]
   have b1:(0:Int)≤(i:Int):=by omega
   have b2:(i:Int)<(N:Int):=by omega
   have HD:=zh (numsE_drop hlen);clear hgr hlen;generalize l.getD i 0=n at *;cases hin:inN n
   ·rw[hin]at HD;have HF:=zh (show(decide ((0:Int)≤n)&&decide (n≤10000))=false from hin);by_cases h1:0≤n
    ·have t2:decide ((0:Int)≤n)=true:=decide_eq_true h1;have t3:decide (n≤10000)=false:=by have:=HF.out;rw[t2]at this;simpa using this
     clear hin h1;go_wp2_with fail
     refine(HMn.out _).mono ?_;rintro e w1 ⟨rfl,rfl⟩;go_wp2_with fail
     exact⟨rfl,by rw[hE.out,HD.out];exact⟨rfl,hwr.1⟩⟩
    ·have t2:decide ((0:Int)≤n)=false:=decide_eq_false h1;clear hin h1;go_wp2_with fail
     refine(HMn.out _).mono ?_;rintro e w1 ⟨rfl,rfl⟩;go_wp2_with fail
     exact⟨rfl,by rw[hE.out,HD.out];exact⟨rfl,hwr.1⟩⟩
   ·rw[hin]at HD;obtain⟨h1,h2⟩:0≤n∧n≤10000:=by simpa [inN] using hin
    obtain⟨k,rfl⟩:=Int.eq_ofNat_of_zero_le h1;clear hin;have HUU:=zh (HU.out k (by omega));have hkl:=uintS_len k;have wk:IntKind.u64.wrap (k:Int)=(k:Int):=by rw[IntKind.wrap_u64];omega
    have HL2:=zh (show(o++q).length+(uintS k).length≤100000000 by simp;omega);go_wp2_with fail
    refine(HMy.out _).mono ?_;rintro e w1 ⟨rfl,rfl⟩;go_wp2_with fail
    go_region_held3 (fun _=>True) (trivial) (first|(go_at_call 46;(with_reducible refine(HUU.out _).mono ?_);rintro e w2 ⟨rfl,hb2⟩)|(go_at_call 30;refine(HW.out _ _ (hbd.drew.below hb2) (uintS k) HL2.out).mono ?_;rintro e w3 ⟨rfl,hb3,hw3⟩))
    go_wp2_with fail
    go_roundw
    case rel=>exact⟨i+1,q++uintS k,by go_num,by omega,by simp;omega,by show _=_;rw[hE.out,HD.out,preB_app];simp only[if_true];rfl,by rw[←List.append_assoc];exact hb3,(hwr.drew.below hbd.1 hb2).trans hw3⟩
    case measure=>simp[intOf];omega
  ·have t0:decide ((i:Int)<(N:Int))=false:=by simp;omega
   go_wp2_with fail
   go_end0;rw[hE.out,List.drop_eq_nil_of_le (by rw[HN.out];omega)];exact⟨rfl,by rw[List.append_nil];exact hbd,hwr⟩
end
section
open Go.RowKit
/-- the pack's reader: its text, its place -/
def SrB (b:Nat) (s:ByteArray) (k:Nat) (w:World):Prop:=w.heap[b]?=some (.cells #[.string s,.int .i64 k] 68 (0,0))
theorem SrB.c0 {b:Nat} {s:ByteArray} {k:Nat} {w:World} (h:SrB b s k w):w.cell? ⟨b,0,none⟩=some (.string s):=by rw[zc h];rfl
theorem SrB.c1 {b:Nat} {s:ByteArray} {k:Nat} {w:World} (h:SrB b s k w):w.cell? ⟨b,1,none⟩=some (.int .i64 k):=by rw[zc h];rfl
theorem SrB.fz {b:Nat} {s:ByteArray} {k:Nat} {w:World} (h:SrB b s k w) (i:Nat):w.frozen? ⟨b,i,none⟩=false:=Lib.frozen_of_heap h i
theorem SrB.put1 {b:Nat} {s:ByteArray} {k:Nat} {w:World} (h:SrB b s k w) (c:Nat):SrB b s c (w.setCell ⟨b,1,none⟩ (.int .i64 c)):=heap_setN h 1 _
theorem SrB.drewN {b:Nat} {s:ByteArray} {k:Nat} {w:World} (h:SrB b s k w) (n:Nat):SrB b s k (w.drewN n):=h
theorem SrB.drew {b:Nat} {s:ByteArray} {k:Nat} {w:World} (h:SrB b s k w):SrB b s k w.drew:=h
theorem SrB.lt {b:Nat} {s:ByteArray} {k:Nat} {w:World} (h:SrB b s k w):b<w.heap.size:=lt_of_block h
theorem SrB.below {b:Nat} {s:ByteArray} {k:Nat} {w w':World} (h:SrB b s k w) (hb:Below w.heap.size w w'):SrB b s k w':=(hb.block b h.lt).trans h
theorem SrB.kept {b:Nat} {s:ByteArray} {k:Nat} {l:List Nat} {w w':World} (h:SrB b s k w) (hf:Fr l w w') (hb:b ∉ l):SrB b s k w':=hf.at h hb
/-- a count read -/
def numR (l:List UInt8):Option (Nat × List UInt8) :=
 match rdU l with
 | none=>none
 | some r=>if r.1≤10000 then some r else none
/-- what a call of the pack's reader leaves: a value and its place, or it gave up -/
def SrPost (b:Nat) (s:ByteArray) (w:World) (r:Option (Value × List UInt8)) (e:Ending) (w':World):Prop :=
 match r with
 | some v=>e=.returned v.1∧SrB b s (s.size - v.2.length) w'∧Fr [b] w w'
 | none=>e=gave 5∧Fr [b] w w'
theorem snumR_any (s:ByteArray) (hs:s.size≤100000000) (k:Nat) (hk:k≤s.size) (b:Nat) (w:World) (hb:SrB b s k w) :
  Calls Tryz.prog 22 #[.pointer (some ⟨b,0,none⟩)] w (SrPost b s w (onN (fun n=>.int .i64 (n:Int)) (numR (s.data.toList.drop k)))):=by
 have HR:=zh (fun w=>ReadUint_any s hs k hk w);have HMy:=zh must_yes;have HMn:=zh must_no;have c0:=hb.c0;have c1:=hb.c1;have HBb:=zh (fun w' (h:Below w.heap.size w w')=>hb.below h);unfold numR;generalize rdU (s.data.toList.drop k)=r at *;have HRR:=HR.out;cases r with
 | none =>
  have HRR:=zh HRR;go_in;go_wp2_with fail
  go_region_held3 (fun w'=>w'.cell? ⟨b,0,none⟩=some (.string s)∧w'.cell? ⟨b,1,none⟩=some (.int .i64 (k:Int))) (first|exact⟨c0,c1⟩|go_keep|exact⟨(HBb.out _ (undrew hb1)).c0,(HBb.out _ (undrew hb1)).c1⟩) ((go_at_call 53;(with_reducible refine(HRR.out _).mono ?_);rintro e w1 ⟨⟨x,hx,rfl⟩,hb1⟩))
  have tx:(x==0)=false:=beq_eq_false_iff_ne.2 hx;clear hx;go_wp2_with fail
  refine(HMn.out _).mono ?_;rintro e w2 ⟨rfl,rfl⟩;go_wp2_with fail
  exact⟨rfl,rfl,Fr.of_below (undrew hb1)⟩
 | some r =>
  obtain⟨n,l⟩:=r;have hle:s.size - l.length≤s.size:=Nat.sub_le _ _;generalize hk2:s.size - l.length=k2 at *;have HK2:=zh hk2;clear hk2;have HRR:=zh (fun w=>(HRR w).mono fun e w' (h:RuPost s (some (n,l)) w e w')=>(show e=.returned (.tuple #[.int .u64 (n:Int),.int .i64 (k2:Int),.int .i64 0])∧Below w.heap.size w w' from by rw[←HK2.out];exact h));by_cases hn:n≤10000
  ·have t1:decide ((n:Int)≤10000)=true:=by simp;omega
   rw[show(match (some (n,l):Option (Nat × List UInt8)) with|none=>none|some r=>if r.1≤10000 then some r else none)=some (n,l) from if_pos hn]
   go_in;go_wp2_with fail
   go_region_held3 (fun w'=>w'.cell? ⟨b,0,none⟩=some (.string s)∧w'.cell? ⟨b,1,none⟩=some (.int .i64 (k:Int))) (first|exact⟨c0,c1⟩|go_keep|exact⟨(HBb.out _ (undrew hb1)).c0,(HBb.out _ (undrew hb1)).c1⟩) ((go_at_call 53;(with_reducible refine(HRR.out _).mono ?_);rintro e w1 ⟨rfl,hb1⟩))
   go_wp2_with fail
   refine(HMy.out _).mono ?_;rintro e w2 ⟨rfl,rfl⟩;have hb2:=HBb.out _ (undrew hb1);have d1:=hb2.c1;have f1:=hb2.fz 1;go_wp2_with fail
   go_ret;exact⟨rfl,by show SrB b s (s.size - l.length) _;rw[HK2.out];exact hb2.put1 k2,(Fr.of_below (undrew hb1)).setCell (l:=[b]) _ (by simp) _⟩
  ·have t1:decide ((n:Int)≤10000)=false:=by simp;omega
   rw[show(match (some (n,l):Option (Nat × List UInt8)) with|none=>none|some r=>if r.1≤10000 then some r else none)=none from if_neg hn]
   go_in;go_wp2_with fail
   go_region_held3 (fun w'=>w'.cell? ⟨b,0,none⟩=some (.string s)∧w'.cell? ⟨b,1,none⟩=some (.int .i64 (k:Int))) (first|exact⟨c0,c1⟩|go_keep|exact⟨(HBb.out _ (undrew hb1)).c0,(HBb.out _ (undrew hb1)).c1⟩) ((go_at_call 53;(with_reducible refine(HRR.out _).mono ?_);rintro e w1 ⟨rfl,hb1⟩))
   go_wp2_with fail
   refine(HMn.out _).mono ?_;rintro e w2 ⟨rfl,rfl⟩;go_wp2_with fail
   exact⟨rfl,rfl,Fr.of_below (undrew hb1)⟩
end
section
open Go.RowKit
theorem drop_len (s:ByteArray) {l:List UInt8} (h:l.length≤s.size) (hl:∃ k,l=s.data.toList.drop k):s.data.toList.drop (s.size - l.length)=l:=by
 obtain⟨j,rfl⟩:=hl;have e:s.data.toList.length=s.size:=by simp
 rw[List.length_drop,e];rcases Nat.le_total j s.size with g|g
 ·rw[show s.size - (s.size - j)=j by omega]
 ·rw[show s.size - (s.size - j)=s.size by omega,List.drop_eq_nil_of_le (by omega),List.drop_eq_nil_of_le (by omega)]
/-- what is left behind a number is an end of the text -/
theorem rdUF_drop:∀ (f:Nat) (l:List UInt8) (r:Nat × List UInt8),rdUF f l=some r→∃ j,r.2=l.drop j
 | 0,_,_,h=>by rw[rdUF]at h;cases h
 | f+1,[],_,h=>by rw[rdUF]at h;cases h
 | f+1,b::l,r,h=>by
  rw[rdUF]at h;split at h
  ·cases h
  ·split at h
   ·cases h;exact⟨1,rfl⟩
   ·split at h
    ·cases h
    ·rename_i q hq;cases h
     obtain⟨j,hj⟩:=rdUF_drop f l q hq;exact⟨j+1,by rw[List.drop_succ_cons,←hj]⟩
/-- an end of a text -/
def EndOf (s:ByteArray) (l:List UInt8):Prop:=∃ k,k≤s.size∧l=s.data.toList.drop k
theorem EndOf.len {s:ByteArray} {l:List UInt8} (h:EndOf s l):l.length≤s.size:=by
 obtain⟨k,hk,rfl⟩:=h;have e:s.data.toList.length=s.size:=by simp
 rw[List.length_drop,e];omega
theorem EndOf.back {s:ByteArray} {l:List UInt8} (h:EndOf s l):s.data.toList.drop (s.size - l.length)=l:=drop_len s h.len ⟨h.choose,h.choose_spec.2⟩
theorem EndOf.drop {s:ByteArray} {l:List UInt8} (h:EndOf s l) (j:Nat):EndOf s (l.drop j):=by
 obtain⟨k,hk,rfl⟩:=h;have e:s.data.toList.length=s.size:=by simp
 rw[List.drop_drop];rcases Nat.le_total (k+j) s.size with g|g
 ·exact⟨k+j,g,rfl⟩
 ·exact⟨s.size,Nat.le_refl _,by rw[List.drop_eq_nil_of_le (by omega),List.drop_eq_nil_of_le (by omega)]⟩
theorem EndOf.num {s:ByteArray} {l:List UInt8} (h:EndOf s l) {r:Nat × List UInt8} (hr:numR l=some r):EndOf s r.2:=by
 unfold numR at hr;split at hr
 ·cases hr
 ·rename_i q hq;split at hr
  ·cases hr
   obtain⟨j,hj⟩:=rdUF_drop 10 l r hq;rw[hj];exact h.drop j
  ·cases hr
theorem EndOf.start (s:ByteArray) (k:Nat) (hk:k≤s.size):EndOf s (s.data.toList.drop k):=⟨k,hk,rfl⟩
/-- the pack's reader, by what is left of its text -/
def SrL (b:Nat) (s:ByteArray) (l:List UInt8) (w:World):Prop:=EndOf s l∧SrB b s (s.size - l.length) w
theorem SrL.drew {b:Nat} {s:ByteArray} {l:List UInt8} {w:World} (h:SrL b s l w):SrL b s l w.drew:=h
theorem SrL.lt {b:Nat} {s:ByteArray} {l:List UInt8} {w:World} (h:SrL b s l w):b<w.heap.size:=h.2.lt
theorem SrL.kept {b:Nat} {s:ByteArray} {l:List UInt8} {m:List Nat} {w w':World} (h:SrL b s l w) (hf:Fr m w w') (hb:b ∉ m):SrL b s l w':=⟨h.1,h.2.kept hf hb⟩
theorem SrL.below {b:Nat} {s:ByteArray} {l:List UInt8} {w w':World} (h:SrL b s l w) (hb:Below w.heap.size w w'):SrL b s l w':=⟨h.1,h.2.below hb⟩
/-- what a call of it leaves, told by what is left of the text -/
def SlPost (b:Nat) (s:ByteArray) (w:World) (r:Option (Value × List UInt8)) (e:Ending) (w':World):Prop :=
 match r with
 | some v=>e=.returned v.1∧SrL b s v.2 w'∧Fr [b] w w'
 | none=>e=gave 5∧Fr [b] w w'
theorem snumL (s:ByteArray) (hs:s.size≤100000000) (b:Nat) (l:List UInt8) (w:World) (hb:SrL b s l w) :
  Calls Tryz.prog 22 #[.pointer (some ⟨b,0,none⟩)] w (SlPost b s w (onN (fun n=>.int .i64 (n:Int)) (numR l))):=by
 have h:=snumR_any s hs (s.size - l.length) (Nat.sub_le _ _) b w hb.2;rw[hb.1.back]at h;have he:=fun r=>hb.1.num (r:=r)
 generalize numR l=r at *;cases r with
 | none=>exact h
 | some r=>exact h.mono fun e w' ⟨h1,h2,h3⟩=>⟨h1,⟨he _ rfl,h2⟩,h3⟩
end
section
open Go.RowKit
/-- what a call that reads a value leaves -/
def SvPost (b:Nat) (s:ByteArray) (w:World) (r:Option (VT × List UInt8)) (e:Ending) (w':World):Prop :=
 match r with
 | some v=>∃ cs,e=.returned (.agg cs)∧ValIn (fun g=>w.heap.size≤g) w' 12 v.1 cs∧SrL b s v.2 w'∧Fr [b] w w'
 | none=>e=gave 5∧Fr [b] w w'
theorem rdVal_suf {l t:List UInt8} {v:VT} (h:rdVal l=some (v,t)):∃ j,t=l.drop j:=⟨(encV v).length,by rw[(rdVal_dec h).1,List.drop_append_of_le_length (Nat.le_refl _)];simp⟩
theorem svalL (s:ByteArray) (hs:s.size≤100000000) (b:Nat) (l:List UInt8) (w:World) (hb:SrL b s l w) :
  Calls Tryz.prog 54 #[.pointer (some ⟨b,0,none⟩)] w (SvPost b s w (rdVal l)):=by
 have hsf:∀ (a:Addr) (x:Nat) (m:Mode) (w:World),(store a (.float .f64 x) m).run Tryz.prog w=stored Tryz.prog w a (.float .f64 x) m:=fun a x m w=>run_store _ w a _ m rfl
 have hR:=fun w=>ReadValue_any s hs (s.size - l.length) (Nat.sub_le _ _) w
 rw[hb.1.back]at hR;have hend:=fun v t (h:rdVal l=some (v,t))=>(show EndOf s t by obtain⟨j,rfl⟩:=rdVal_suf h;exact hb.1.drop j)
 have hb1:=hb.2;have hbl:=hb.lt;generalize s.size - l.length=k at *;clear hb;have HR:=zh hR;clear hR;have HMy:=zh must_yes;have HMn:=zh must_no;have hA:=(Fr.refl [b] w).alloc (.cells #[.int .i64 0,.int .i64 0,.float .f64 0,.string ⟨#[]⟩,.slice none 0 0,.slice none 0 0] 28);have hgA:(w.alloc (.cells #[.int .i64 0,.int .i64 0,.float .f64 0,.string ⟨#[]⟩,.slice none 0 0,.slice none 0 0] 28)).heap[w.heap.size]?=some (.cells #[.int .i64 0,.int .i64 0,.float .f64 0,.string ⟨#[]⟩,.slice none 0 0,.slice none 0 0] 28 (0,0)):=heap_alloc_new w _;have hb0:SrB b s k (w.alloc (.cells #[.int .i64 0,.int .i64 0,.float .f64 0,.string ⟨#[]⟩,.slice none 0 0,.slice none 0 0] 28)):=hb1.below ((Below.refl _ _).alloc (Nat.le_refl _) _);have hszA:(w.alloc (.cells #[.int .i64 0,.int .i64 0,.float .f64 0,.string ⟨#[]⟩,.slice none 0 0,.slice none 0 0] 28)).heap.size=w.heap.size+1:=by simp
 clear hb1;generalize hW0:w.alloc (.cells #[.int .i64 0,.int .i64 0,.float .f64 0,.string ⟨#[]⟩,.slice none 0 0,.slice none 0 0] 28)=W0 at *;generalize hG:w.heap.size=G at *;have HW0:=zh hW0;have HG:=zh hG;clear hW0 hG;have HBb:=zh (fun w' (h:Below W0.heap.size W0 w')=>hb0.below h);have HGb:=zh (fun w' (h:Below W0.heap.size W0 w')=>(h.block G (by omega)).trans hgA);have c0:=hb0.c0;have c1:=hb0.c1;have hbG:b≠G:=by omega
 clear hgA;have HSZ:=zh hszA;clear hszA;have hA0:Below W0.heap.size W0 (W0.alloc (.cells #[.int .i64 0,.int .i64 0,.float .f64 0,.string ⟨#[]⟩,.slice none 0 0,.slice none 0 0] 28)):=(Below.refl _ _).alloc (Nat.le_refl _) _;have c0a:=(World.cell?_alloc_some W0 _ (.cells #[.int .i64 0,.int .i64 0,.float .f64 0,.string ⟨#[]⟩,.slice none 0 0,.slice none 0 0] 28) (by rw[c0];rfl)).trans c0;have c1a:=(World.cell?_alloc_some W0 _ (.cells #[.int .i64 0,.int .i64 0,.float .f64 0,.string ⟨#[]⟩,.slice none 0 0,.slice none 0 0] 28) (by rw[c1];rfl)).trans c1;generalize rdVal l=r at *;have HRR:=HR.out;cases r with
 | none =>
  have HRR:=zh HRR;go_in;go_wp2_with fail
  rw[HW0.out,HG.out];go_region_held3 (fun w'=>w'.cell? ⟨b,0,none⟩=some (.string s)∧w'.cell? ⟨b,1,none⟩=some (.int .i64 (k:Int))) (first|with_reducible exact⟨c0,c1⟩|with_reducible exact⟨c0a,c1a⟩|with_reducible exact⟨(HBb.out _ hq1).c0,(HBb.out _ hq1).c1⟩|with_reducible exact⟨(HBb.out _ (hq1.alloc hq1.size _)).c0,(HBb.out _ (hq1.alloc hq1.size _)).c1⟩|with_reducible exact⟨(HBb.out _ (hA0.drew)).c0,(HBb.out _ (hA0.drew)).c1⟩|with_reducible exact⟨(HBb.out _ ((((((hq1.setCell (p:=⟨W0.heap.size,0,none⟩) (Nat.le_refl _) _).setCell (p:=⟨W0.heap.size,1,none⟩) (Nat.le_refl _) _).setCell (p:=⟨W0.heap.size,2,none⟩) (Nat.le_refl _) _).setCell (p:=⟨W0.heap.size,3,none⟩) (Nat.le_refl _) _).setCell (p:=⟨W0.heap.size,4,none⟩) (Nat.le_refl _) _).setCell (p:=⟨W0.heap.size,5,none⟩) (Nat.le_refl _) _)).c0,(HBb.out _ ((((((hq1.setCell (p:=⟨W0.heap.size,0,none⟩) (Nat.le_refl _) _).setCell (p:=⟨W0.heap.size,1,none⟩) (Nat.le_refl _) _).setCell (p:=⟨W0.heap.size,2,none⟩) (Nat.le_refl _) _).setCell (p:=⟨W0.heap.size,3,none⟩) (Nat.le_refl _) _).setCell (p:=⟨W0.heap.size,4,none⟩) (Nat.le_refl _) _).setCell (p:=⟨W0.heap.size,5,none⟩) (Nat.le_refl _) _)).c1⟩|go_keep) ((first|(go_at_call 86;(with_reducible refine(HRR.out (W0.alloc (.cells #[.int .i64 0,.int .i64 0,.float .f64 0,.string ⟨#[]⟩,.slice none 0 0,.slice none 0 0] 28)).drew).mono ?_);rintro e w1 ⟨⟨x,hx,rfl⟩,hb1⟩;have hq1:=(hA0.drew).trans (hb1.mono hA0.size);have n1:=(hb1.block W0.heap.size (by simp)).trans (heap_alloc_new W0 _);have x0:=zc n1 0;have x1:=zc n1 1;have x2:=zc n1 2;have x3:=zc n1 3;have x4:=zc n1 4;have x5:=zc n1 5;have u0:=Lib.frozen_of_heap n1 0;have u1:=Lib.frozen_of_heap n1 1;have u2:=Lib.frozen_of_heap n1 2;have u3:=Lib.frozen_of_heap n1 3;have u4:=Lib.frozen_of_heap n1 4;have u5:=Lib.frozen_of_heap n1 5;simp at x0 x1 x2 x3 x4 x5)|(go_at_call 86;(with_reducible refine(HRR.out W0.drew).mono ?_);rintro e w1 ⟨⟨x,hx,rfl⟩,hb1⟩;have hq1:=undrew hb1)))
  all_goals have tx:(x==0)=false:=beq_eq_false_iff_ne.2 hx
  all_goals clear hx
  all_goals go_wp2_with fail
  all_goals (refine(HMn.out _).mono ?_;rintro e w2 ⟨rfl,rfl⟩;go_wp2_with fail;exact⟨rfl,rfl,hA.trans (Fr.of_below (by first|with_reducible exact hq1.alloc hq1.size _|with_reducible exact((((((hq1.setCell (p:=⟨W0.heap.size,0,none⟩) (Nat.le_refl _) _).setCell (p:=⟨W0.heap.size,1,none⟩) (Nat.le_refl _) _).setCell (p:=⟨W0.heap.size,2,none⟩) (Nat.le_refl _) _).setCell (p:=⟨W0.heap.size,3,none⟩) (Nat.le_refl _) _).setCell (p:=⟨W0.heap.size,4,none⟩) (Nat.le_refl _) _).setCell (p:=⟨W0.heap.size,5,none⟩) (Nat.le_refl _) _)))⟩)
 | some r =>
  obtain⟨v,l'⟩:=r;have hle:s.size - l'.length≤s.size:=Nat.sub_le _ _;have hel:=hend v l' rfl;generalize hk2:s.size - l'.length=k2 at *;have HK2:=zh hk2;clear hk2 hend;have HRR:=zh (fun w=>(HRR w).mono fun e w' (h:RvalPost s (some (v,l')) w e w')=>(show ∃ cs,e=.returned (.tuple #[.agg cs,.int .i64 (k2:Int),.int .i64 0])∧ValIn (fun g=>w.heap.size≤g) w' 12 v cs∧Below w.heap.size w w' from by
   unfold RvalPost at h;dsimp only at h;obtain⟨cs,h1,h2,h3⟩:=h;exact⟨cs,by rw[h1,HK2.out],h2,h3⟩))
  go_in;go_wp2_with fail
  rw[HW0.out,HG.out];go_region_held3 (fun w'=>w'.cell? ⟨b,0,none⟩=some (.string s)∧w'.cell? ⟨b,1,none⟩=some (.int .i64 (k:Int))) (first|with_reducible exact⟨c0,c1⟩|with_reducible exact⟨c0a,c1a⟩|with_reducible exact⟨(HBb.out _ hq1).c0,(HBb.out _ hq1).c1⟩|with_reducible exact⟨(HBb.out _ (hq1.alloc hq1.size _)).c0,(HBb.out _ (hq1.alloc hq1.size _)).c1⟩|with_reducible exact⟨(HBb.out _ (hA0.drew)).c0,(HBb.out _ (hA0.drew)).c1⟩|with_reducible exact⟨(HBb.out _ ((((((hq1.setCell (p:=⟨W0.heap.size,0,none⟩) (Nat.le_refl _) _).setCell (p:=⟨W0.heap.size,1,none⟩) (Nat.le_refl _) _).setCell (p:=⟨W0.heap.size,2,none⟩) (Nat.le_refl _) _).setCell (p:=⟨W0.heap.size,3,none⟩) (Nat.le_refl _) _).setCell (p:=⟨W0.heap.size,4,none⟩) (Nat.le_refl _) _).setCell (p:=⟨W0.heap.size,5,none⟩) (Nat.le_refl _) _)).c0,(HBb.out _ ((((((hq1.setCell (p:=⟨W0.heap.size,0,none⟩) (Nat.le_refl _) _).setCell (p:=⟨W0.heap.size,1,none⟩) (Nat.le_refl _) _).setCell (p:=⟨W0.heap.size,2,none⟩) (Nat.le_refl _) _).setCell (p:=⟨W0.heap.size,3,none⟩) (Nat.le_refl _) _).setCell (p:=⟨W0.heap.size,4,none⟩) (Nat.le_refl _) _).setCell (p:=⟨W0.heap.size,5,none⟩) (Nat.le_refl _) _)).c1⟩|go_keep) ((first|(go_at_call 86;(with_reducible refine(HRR.out (W0.alloc (.cells #[.int .i64 0,.int .i64 0,.float .f64 0,.string ⟨#[]⟩,.slice none 0 0,.slice none 0 0] 28)).drew).mono ?_);rintro e w1 ⟨cs,rfl,hv1,hb1⟩;obtain⟨na,nl,nc,ia,il,ic,rfl⟩:=hv1.six;have hq1:=(hA0.drew).trans (hb1.mono hA0.size);have n1:=(hb1.block W0.heap.size (by simp)).trans (heap_alloc_new W0 _);have x0:=zc n1 0;have x1:=zc n1 1;have x2:=zc n1 2;have x3:=zc n1 3;have x4:=zc n1 4;have x5:=zc n1 5;have u0:=Lib.frozen_of_heap n1 0;have u1:=Lib.frozen_of_heap n1 1;have u2:=Lib.frozen_of_heap n1 2;have u3:=Lib.frozen_of_heap n1 3;have u4:=Lib.frozen_of_heap n1 4;have u5:=Lib.frozen_of_heap n1 5;simp at x0 x1 x2 x3 x4 x5)|(go_at_call 86;(with_reducible refine(HRR.out W0.drew).mono ?_);rintro e w1 ⟨cs,rfl,hv1,hb1⟩;obtain⟨na,nl,nc,ia,il,ic,rfl⟩:=hv1.six;have hq1:=undrew hb1)))
  all_goals go_wp2_with fail
  ·skip
   have hQ:(w1.alloc (.cells #[.int .i64 v.kind,.int .i64 v.num,.float .f64 v.flt,.string ⟨v.str.toArray⟩,.slice na nl nc,.slice ia il ic] 28)).heap[w1.heap.size]?=some (.cells #[.int .i64 v.kind,.int .i64 v.num,.float .f64 v.flt,.string ⟨v.str.toArray⟩,.slice na nl nc,.slice ia il ic] 28 (0,0)):=heap_alloc_new w1 _;have FA:=(Fr.refl [] w1).alloc (.cells #[.int .i64 v.kind,.int .i64 v.num,.float .f64 v.flt,.string ⟨v.str.toArray⟩,.slice na nl nc,.slice ia il ic] 28);have hX0:Below W0.heap.size W0 (w1.alloc (.cells #[.int .i64 v.kind,.int .i64 v.num,.float .f64 v.flt,.string ⟨v.str.toArray⟩,.slice na nl nc,.slice ia il ic] 28)):=hq1.alloc hq1.size _;have hvX:ValIn (fun g=>W0.heap.size≤g∧g≠w1.heap.size) (w1.alloc (.cells #[.int .i64 v.kind,.int .i64 v.num,.float .f64 v.flt,.string ⟨v.str.toArray⟩,.slice na nl nc,.slice ia il ic] 28)) 12 v #[.int .i64 v.kind,.int .i64 v.num,.float .f64 v.flt,.string ⟨v.str.toArray⟩,.slice na nl nc,.slice ia il ic]:=hv1.kept FA.size fun g h1 h2=>by
    have h1:W0.heap.size≤g:=by simpa using h1
    exact⟨⟨by omega,by omega⟩,FA.block g h2 (by simp)⟩
   have hQW:W0.heap.size≤w1.heap.size:=hq1.size;clear FA hv1 hb1 hq1;generalize w1.alloc (.cells #[.int .i64 v.kind,.int .i64 v.num,.float .f64 v.flt,.string ⟨v.str.toArray⟩,.slice na nl nc,.slice ia il ic] 28)=X at *;refine(HMy.out _).mono ?_;rintro e w2 ⟨rfl,rfl⟩;have hbX:=HBb.out _ hX0;have hgX:=HGb.out _ hX0;have hW:=HSZ.out;have d1:=hbX.c1;have f1:=hbX.fz 1;have hb2:SrB b s k2 (X.setCell ⟨b,1,none⟩ (.int .i64 (k2:Int))):=hbX.put1 k2;have F2:=(Fr.refl [b] X).setCell (l:=[b]) ⟨b,1,none⟩ (by simp) (.int .i64 (k2:Int));have hg2:=F2.at hgX (by simp;omega);have hQ2:=F2.at hQ (by simp;omega);have hv2:=hvX.fr F2 (fun g hg hn=>by simp at hg;have:=hn.1;omega);have A2:=(hA.trans (Fr.of_below (l:=[b]) hX0)).trans F2;clear hW;go_upto_region 4 with (fail)
   clear d1 f1 hbX hgX hQ hvX F2;generalize X.setCell ⟨b,1,none⟩ (.int .i64 (k2:Int))=X0 at *;obtain⟨d0,d1,d2,d3,d4,d5⟩:=cells6 hQ2;have e0:X0.cell? ⟨G,0,none⟩=some (.int .i64 0):=by rw[zc hg2];rfl
   have z0:X0.frozen? ⟨G,0,none⟩=false:=Lib.frozen_of_heap hg2 0;have e1:X0.cell? ⟨G,1,none⟩=some (.int .i64 0):=by rw[zc hg2];rfl
   have z1:X0.frozen? ⟨G,1,none⟩=false:=Lib.frozen_of_heap hg2 1;have e2:X0.cell? ⟨G,2,none⟩=some (.float .f64 0):=by rw[zc hg2];rfl
   have z2:X0.frozen? ⟨G,2,none⟩=false:=Lib.frozen_of_heap hg2 2;have e3:X0.cell? ⟨G,3,none⟩=some (.string ⟨#[]⟩):=by rw[zc hg2];rfl
   have z3:X0.frozen? ⟨G,3,none⟩=false:=Lib.frozen_of_heap hg2 3;have e4:X0.cell? ⟨G,4,none⟩=some (.slice none 0 0):=by rw[zc hg2];rfl
   have z4:X0.frozen? ⟨G,4,none⟩=false:=Lib.frozen_of_heap hg2 4;have e5:X0.cell? ⟨G,5,none⟩=some (.slice none 0 0):=by rw[zc hg2];rfl
   have z5:X0.frozen? ⟨G,5,none⟩=false:=Lib.frozen_of_heap hg2 5;go_wp2_with fail
   have hgF:(((((((X0).setCell ⟨G,0,none⟩ (.int .i64 v.kind)).setCell ⟨G,1,none⟩ (.int .i64 v.num)).setCell ⟨G,2,none⟩ (.float .f64 v.flt)).setCell ⟨G,3,none⟩ (.string ⟨v.str.toArray⟩)).setCell ⟨G,4,none⟩ (.slice na nl nc)).setCell ⟨G,5,none⟩ (.slice ia il ic)).heap[G]?=some (.cells #[.int .i64 v.kind,.int .i64 v.num,.float .f64 v.flt,.string ⟨v.str.toArray⟩,.slice na nl nc,.slice ia il ic] 28 (0,0)):=heap_setN (heap_setN (heap_setN (heap_setN (heap_setN (heap_setN hg2 0 _) 1 _) 2 _) 3 _) 4 _) 5 _;have FF:=((((((Fr.refl [G] X0).setCell ⟨G,0,none⟩ (by simp) (.int .i64 v.kind)).setCell ⟨G,1,none⟩ (by simp) (.int .i64 v.num)).setCell ⟨G,2,none⟩ (by simp) (.float .f64 v.flt)).setCell ⟨G,3,none⟩ (by simp) (.string ⟨v.str.toArray⟩)).setCell ⟨G,4,none⟩ (by simp) (.slice na nl nc)).setCell ⟨G,5,none⟩ (by simp) (.slice ia il ic);clear d0 e0 z0 d1 e1 z1 d2 e2 z2 d3 e3 z3 d4 e4 z4 d5 e5 z5;generalize ((((((X0).setCell ⟨G,0,none⟩ (.int .i64 v.kind)).setCell ⟨G,1,none⟩ (.int .i64 v.num)).setCell ⟨G,2,none⟩ (.float .f64 v.flt)).setCell ⟨G,3,none⟩ (.string ⟨v.str.toArray⟩)).setCell ⟨G,4,none⟩ (.slice na nl nc)).setCell ⟨G,5,none⟩ (.slice ia il ic)=Y at *;obtain⟨y0,y1,y2,y3,y4,y5⟩:=cells6 hgF;have hff:=(A2.mono (m:=[b,G]) (by simp)).trans (FF.mono (m:=[b,G]) (by simp));refine bodyPost_ret (v:=.agg #[.int .i64 v.kind,.int .i64 v.num,.float .f64 v.flt,.string ⟨v.str.toArray⟩,.slice na nl nc,.slice ia il ic]) (by simp[results,Tryz.results54,go_sem,y0,y1,y2,y3,y4,y5]) rfl ?_;refine⟨_,rfl,hv2.kept FF.size (fun g h1 h2=>⟨by have:=h1.1;have:=HG.out;have:=HSZ.out;omega,FF.block g h2 (by have:=h1.1;have:=HSZ.out;simp;omega)⟩),⟨hel,?_⟩,hff.fewer (Nat.le_of_eq HG.out)⟩;have h9:=hb2.kept FF (by simpa using hbG);rw[←HK2.out]at h9;exact h9
  ·skip
   have hQ:(((((((w1).setCell ⟨W0.heap.size,0,none⟩ (.int .i64 v.kind)).setCell ⟨W0.heap.size,1,none⟩ (.int .i64 v.num)).setCell ⟨W0.heap.size,2,none⟩ (.float .f64 v.flt)).setCell ⟨W0.heap.size,3,none⟩ (.string ⟨v.str.toArray⟩)).setCell ⟨W0.heap.size,4,none⟩ (.slice na nl nc)).setCell ⟨W0.heap.size,5,none⟩ (.slice ia il ic)).heap[W0.heap.size]?=some (.cells #[.int .i64 v.kind,.int .i64 v.num,.float .f64 v.flt,.string ⟨v.str.toArray⟩,.slice na nl nc,.slice ia il ic] 28 (0,0)):=heap_setN (heap_setN (heap_setN (heap_setN (heap_setN (heap_setN n1 0 _) 1 _) 2 _) 3 _) 4 _) 5 _;have FA:=((((((Fr.refl [W0.heap.size] w1).setCell ⟨W0.heap.size,0,none⟩ (by simp) (.int .i64 v.kind)).setCell ⟨W0.heap.size,1,none⟩ (by simp) (.int .i64 v.num)).setCell ⟨W0.heap.size,2,none⟩ (by simp) (.float .f64 v.flt)).setCell ⟨W0.heap.size,3,none⟩ (by simp) (.string ⟨v.str.toArray⟩)).setCell ⟨W0.heap.size,4,none⟩ (by simp) (.slice na nl nc)).setCell ⟨W0.heap.size,5,none⟩ (by simp) (.slice ia il ic);have hX0:Below W0.heap.size W0 (((((((w1).setCell ⟨W0.heap.size,0,none⟩ (.int .i64 v.kind)).setCell ⟨W0.heap.size,1,none⟩ (.int .i64 v.num)).setCell ⟨W0.heap.size,2,none⟩ (.float .f64 v.flt)).setCell ⟨W0.heap.size,3,none⟩ (.string ⟨v.str.toArray⟩)).setCell ⟨W0.heap.size,4,none⟩ (.slice na nl nc)).setCell ⟨W0.heap.size,5,none⟩ (.slice ia il ic)):=hq1.trans (FA.below hq1.size (by simp));have hvX:ValIn (fun g=>W0.heap.size≤g∧g≠W0.heap.size) (((((((w1).setCell ⟨W0.heap.size,0,none⟩ (.int .i64 v.kind)).setCell ⟨W0.heap.size,1,none⟩ (.int .i64 v.num)).setCell ⟨W0.heap.size,2,none⟩ (.float .f64 v.flt)).setCell ⟨W0.heap.size,3,none⟩ (.string ⟨v.str.toArray⟩)).setCell ⟨W0.heap.size,4,none⟩ (.slice na nl nc)).setCell ⟨W0.heap.size,5,none⟩ (.slice ia il ic)) 12 v #[.int .i64 v.kind,.int .i64 v.num,.float .f64 v.flt,.string ⟨v.str.toArray⟩,.slice na nl nc,.slice ia il ic]:=hv1.kept FA.size fun g h1 h2=>by
    have h1:W0.heap.size+1≤g:=by simpa using h1
    exact⟨⟨by omega,by omega⟩,FA.block g h2 (by simp;omega)⟩
   have hQW:W0.heap.size≤W0.heap.size:=Nat.le_refl _;clear n1 x0 x1 x2 x3 x4 x5 u0 u1 u2 u3 u4 u5 FA hv1 hb1 hq1;generalize ((((((w1).setCell ⟨W0.heap.size,0,none⟩ (.int .i64 v.kind)).setCell ⟨W0.heap.size,1,none⟩ (.int .i64 v.num)).setCell ⟨W0.heap.size,2,none⟩ (.float .f64 v.flt)).setCell ⟨W0.heap.size,3,none⟩ (.string ⟨v.str.toArray⟩)).setCell ⟨W0.heap.size,4,none⟩ (.slice na nl nc)).setCell ⟨W0.heap.size,5,none⟩ (.slice ia il ic)=X at *;refine(HMy.out _).mono ?_;rintro e w2 ⟨rfl,rfl⟩;have hbX:=HBb.out _ hX0;have hgX:=HGb.out _ hX0;have hW:=HSZ.out;have d1:=hbX.c1;have f1:=hbX.fz 1;have hb2:SrB b s k2 (X.setCell ⟨b,1,none⟩ (.int .i64 (k2:Int))):=hbX.put1 k2;have F2:=(Fr.refl [b] X).setCell (l:=[b]) ⟨b,1,none⟩ (by simp) (.int .i64 (k2:Int));have hg2:=F2.at hgX (by simp;omega);have hQ2:=F2.at hQ (by simp;omega);have hv2:=hvX.fr F2 (fun g hg hn=>by simp at hg;have:=hn.1;omega);have A2:=(hA.trans (Fr.of_below (l:=[b]) hX0)).trans F2;clear hW;go_upto_region 4 with (fail)
   clear d1 f1 hbX hgX hQ hvX F2;generalize X.setCell ⟨b,1,none⟩ (.int .i64 (k2:Int))=X0 at *;obtain⟨d0,d1,d2,d3,d4,d5⟩:=cells6 hQ2;have e0:X0.cell? ⟨G,0,none⟩=some (.int .i64 0):=by rw[zc hg2];rfl
   have z0:X0.frozen? ⟨G,0,none⟩=false:=Lib.frozen_of_heap hg2 0;have e1:X0.cell? ⟨G,1,none⟩=some (.int .i64 0):=by rw[zc hg2];rfl
   have z1:X0.frozen? ⟨G,1,none⟩=false:=Lib.frozen_of_heap hg2 1;have e2:X0.cell? ⟨G,2,none⟩=some (.float .f64 0):=by rw[zc hg2];rfl
   have z2:X0.frozen? ⟨G,2,none⟩=false:=Lib.frozen_of_heap hg2 2;have e3:X0.cell? ⟨G,3,none⟩=some (.string ⟨#[]⟩):=by rw[zc hg2];rfl
   have z3:X0.frozen? ⟨G,3,none⟩=false:=Lib.frozen_of_heap hg2 3;have e4:X0.cell? ⟨G,4,none⟩=some (.slice none 0 0):=by rw[zc hg2];rfl
   have z4:X0.frozen? ⟨G,4,none⟩=false:=Lib.frozen_of_heap hg2 4;have e5:X0.cell? ⟨G,5,none⟩=some (.slice none 0 0):=by rw[zc hg2];rfl
   have z5:X0.frozen? ⟨G,5,none⟩=false:=Lib.frozen_of_heap hg2 5;go_wp2_with fail
   have hgF:(((((((X0).setCell ⟨G,0,none⟩ (.int .i64 v.kind)).setCell ⟨G,1,none⟩ (.int .i64 v.num)).setCell ⟨G,2,none⟩ (.float .f64 v.flt)).setCell ⟨G,3,none⟩ (.string ⟨v.str.toArray⟩)).setCell ⟨G,4,none⟩ (.slice na nl nc)).setCell ⟨G,5,none⟩ (.slice ia il ic)).heap[G]?=some (.cells #[.int .i64 v.kind,.int .i64 v.num,.float .f64 v.flt,.string ⟨v.str.toArray⟩,.slice na nl nc,.slice ia il ic] 28 (0,0)):=heap_setN (heap_setN (heap_setN (heap_setN (heap_setN (heap_setN hg2 0 _) 1 _) 2 _) 3 _) 4 _) 5 _;have FF:=((((((Fr.refl [G] X0).setCell ⟨G,0,none⟩ (by simp) (.int .i64 v.kind)).setCell ⟨G,1,none⟩ (by simp) (.int .i64 v.num)).setCell ⟨G,2,none⟩ (by simp) (.float .f64 v.flt)).setCell ⟨G,3,none⟩ (by simp) (.string ⟨v.str.toArray⟩)).setCell ⟨G,4,none⟩ (by simp) (.slice na nl nc)).setCell ⟨G,5,none⟩ (by simp) (.slice ia il ic);clear d0 e0 z0 d1 e1 z1 d2 e2 z2 d3 e3 z3 d4 e4 z4 d5 e5 z5;generalize ((((((X0).setCell ⟨G,0,none⟩ (.int .i64 v.kind)).setCell ⟨G,1,none⟩ (.int .i64 v.num)).setCell ⟨G,2,none⟩ (.float .f64 v.flt)).setCell ⟨G,3,none⟩ (.string ⟨v.str.toArray⟩)).setCell ⟨G,4,none⟩ (.slice na nl nc)).setCell ⟨G,5,none⟩ (.slice ia il ic)=Y at *;obtain⟨y0,y1,y2,y3,y4,y5⟩:=cells6 hgF;have hff:=(A2.mono (m:=[b,G]) (by simp)).trans (FF.mono (m:=[b,G]) (by simp));refine bodyPost_ret (v:=.agg #[.int .i64 v.kind,.int .i64 v.num,.float .f64 v.flt,.string ⟨v.str.toArray⟩,.slice na nl nc,.slice ia il ic]) (by simp[results,Tryz.results54,go_sem,y0,y1,y2,y3,y4,y5]) rfl ?_;refine⟨_,rfl,hv2.kept FF.size (fun g h1 h2=>⟨by have:=h1.1;have:=HG.out;have:=HSZ.out;omega,FF.block g h2 (by have:=h1.1;have:=HSZ.out;simp;omega)⟩),⟨hel,?_⟩,hff.fewer (Nat.le_of_eq HG.out)⟩;have h9:=hb2.kept FF (by simpa using hbG);rw[←HK2.out]at h9;exact h9
end
section
open Go.RowKit
/-- a value or none, read -/
def someR (l:List UInt8):Option (VT × List UInt8) :=
 match l with
 | []=>none
 | c::t=>if c.toNat=0 then some (noVT,t) else if c.toNat=1 then rdVal t else none
end
section
open Go.RowKit
theorem ifail_any (b p:Nat) (s:ByteArray) (st:Option (List UInt8)) (w:World) (h:RdAt b s st p w) :
  Calls Tryz.prog 57 #[.agg #[.pointer (some ⟨b,0,none⟩)]] w fun e w'=>e=.returned (.tuple #[])∧RdAt b s none p w'∧Fr [b] w w':=by
 have h0:=h.below ((Below.refl _ _).alloc (Nat.le_refl _) (.cells #[.pointer (some ⟨b,0,none⟩)] 75));have hgB:(w.alloc (.cells #[.pointer (some ⟨b,0,none⟩)] 75)).heap[w.heap.size]?=some (.cells #[.pointer (some ⟨b,0,none⟩)] 75 (0,0)):=heap_alloc_new w _;have hF0:=(Fr.refl [b] w).alloc (.cells #[.pointer (some ⟨b,0,none⟩)] 75);have hnB:w.heap.size ∉ [b]:=by have:=h.lt;simp;omega
 clear h;obtain⟨k,e,hg,hk,h1,h2⟩:=h0;by_cases h0:e=0
 ·have t0:(e==0)=true:=by rw[h0];rfl
  go_in;go_upto_region 1 with (fail)
  generalize w.alloc (.cells #[.pointer (some ⟨b,0,none⟩)] 75)=W1 at *;have z2:W1.frozen? ⟨b,2,none⟩=false:=Lib.frozen_of_heap hg 2;have c2:W1.cell? ⟨b,2,none⟩=some (.int .i64 e):=by rw[zc hg];rfl
  have hO:RdAt b s none p (W1.setCell ⟨b,2,none⟩ (.int .i64 5)):=⟨k,5,heap_setN hg 2 _,hk,(fun _ h=>nomatch h),fun _=>by decide⟩;have hF:=hF0.setCell ⟨b,2,none⟩ (by simp) (.int .i64 5);have x0:W1.cell? ⟨w.heap.size,0,none⟩=some (.pointer (some ⟨b,0,none⟩)):=by rw[zc hgB];rfl
  clear h0 hg h1 h2;go_wp2_with fail
  go_end0;exact⟨rfl,hO,hF⟩
 ·have t0:(e==0)=false:=beq_eq_false_iff_ne.2 h0;go_in;go_upto_region 1 with (fail)
  generalize w.alloc (.cells #[.pointer (some ⟨b,0,none⟩)] 75)=W1 at *;have c2:W1.cell? ⟨b,2,none⟩=some (.int .i64 e):=by rw[zc hg];rfl
  have hO:RdAt b s none p W1:=⟨k,e,hg,hk,(fun _ h=>nomatch h),fun _=>h0⟩;have x0:W1.cell? ⟨w.heap.size,0,none⟩=some (.pointer (some ⟨b,0,none⟩)):=by rw[zc hgB];rfl
  clear h0 hg h1 h2;go_wp2_with fail
  go_end0;exact⟨rfl,hO,hF0⟩
theorem iok_any (b p:Nat) (s:ByteArray) (st:Option (List UInt8)) (w:World) (h:RdAt b s st p w) :
  Calls Tryz.prog 26 #[.agg #[.pointer (some ⟨b,0,none⟩)]] w fun e w'=>e=.returned (.bool st.isSome)∧RdAt b s st p w'∧Fr [b] w w':=by
 have h0:=h.below ((Below.refl _ _).alloc (Nat.le_refl _) (.cells #[.pointer (some ⟨b,0,none⟩)] 75));have hgB:(w.alloc (.cells #[.pointer (some ⟨b,0,none⟩)] 75)).heap[w.heap.size]?=some (.cells #[.pointer (some ⟨b,0,none⟩)] 75 (0,0)):=heap_alloc_new w _;have hF0:=(Fr.refl [b] w).alloc (.cells #[.pointer (some ⟨b,0,none⟩)] 75);have hnB:w.heap.size ∉ [b]:=by have:=h.lt;simp;omega
 clear h;have hO:=h0;obtain⟨k,e,hg,hk,h1,h2⟩:=h0;cases st with
 | none =>
  have t0:(e==0)=false:=beq_eq_false_iff_ne.2 (h2 rfl);go_in;go_upto_region 1 with (fail)
  generalize w.alloc (.cells #[.pointer (some ⟨b,0,none⟩)] 75)=W1 at *;have c2:W1.cell? ⟨b,2,none⟩=some (.int .i64 e):=by rw[zc hg];rfl
  have x0:W1.cell? ⟨w.heap.size,0,none⟩=some (.pointer (some ⟨b,0,none⟩)):=by rw[zc hgB];rfl
  clear hg h1 h2;go_wp2_with fail
  go_ret;exact⟨rfl,hO,hF0⟩
 | some l =>
  obtain⟨he,_⟩:=h1 l rfl;subst he;go_in;go_upto_region 1 with (fail)
  generalize w.alloc (.cells #[.pointer (some ⟨b,0,none⟩)] 75)=W1 at *;have c2:W1.cell? ⟨b,2,none⟩=some (.int .i64 0):=by rw[zc hg];rfl
  have x0:W1.cell? ⟨w.heap.size,0,none⟩=some (.pointer (some ⟨b,0,none⟩)):=by rw[zc hgB];rfl
  clear hg h1 h2;go_wp2_with fail
  go_ret;exact⟨rfl,hO,hF0⟩
theorem numR_of (st:Option (List UInt8)):outR 0 (st.bind numR)=if 10000<(outR 0 (st.bind rdU)).1 then(0,none) else outR 0 (st.bind rdU):=by
 cases st with
 | none=>rfl
 | some l =>
  show outR 0 (numR l)=if 10000<(outR 0 (rdU l)).1 then(0,none) else outR 0 (rdU l)
  unfold numR;cases rdU l with
  | none=>rfl
  | some r =>
   show outR 0 (if r.1≤10000 then some r else none)=if 10000<r.1 then(0,none) else(r.1,some r.2)
   by_cases hb:r.1≤10000
   ·rw[if_pos hb,if_neg (by omega)];rfl
   ·rw[if_neg hb,if_pos (by omega)];rfl
theorem inum_any (b p:Nat) (s:ByteArray) (hs:s.size≤1000000) (st:Option (List UInt8)) (w:World) (h:RdAt b s st p w) :
  Calls Tryz.prog 27 #[.agg #[.pointer (some ⟨b,0,none⟩)]] w (RdCall b s p w ((fun x=>(.int .i64 ((x.1:Nat):Int),x.2)) (outR 0 (st.bind numR)))):=by
 have h0:=h.below ((Below.refl _ _).alloc (Nat.le_refl _) (.cells #[.pointer (some ⟨b,0,none⟩)] 75));have hgB:(w.alloc (.cells #[.pointer (some ⟨b,0,none⟩)] 75)).heap[w.heap.size]?=some (.cells #[.pointer (some ⟨b,0,none⟩)] 75 (0,0)):=heap_alloc_new w _;have hF0:=(Fr.refl [b] w).alloc (.cells #[.pointer (some ⟨b,0,none⟩)] 75);have hnB:w.heap.size ∉ [b]:=by have:=h.lt;simp;omega
 have HC:=zh (ruint_any b p s hs st _ h0);have HF:=zh (fun st (w:World) (h:RdAt b s st p w)=>ifail_any b p s st w h);have hq:=numR_of st;have hlt:=rdU_lt st;generalize outR 0 (st.bind rdU)=q at *;generalize outR 0 (st.bind numR)=Q at *;obtain⟨n,st2⟩:=q;dsimp only at hq HC hlt;clear h h0;by_cases hn:10000<n
 ·rw[if_pos hn]at hq;have HQ:=zh hq;have t1:decide ((10000:Int)<(n:Int))=true:=by simp;omega
  clear hq hn;go_in;go_upto_region 1 with (fail)
  generalize w.alloc (.cells #[.pointer (some ⟨b,0,none⟩)] 75)=W1 at *;have x0:W1.cell? ⟨w.heap.size,0,none⟩=some (.pointer (some ⟨b,0,none⟩)):=by rw[zc hgB];rfl
  go_wp2_with fail
  refine(HC.out).mono ?_;rintro e w2 ⟨rfl,h2,hf2⟩;dsimp only at h2 ⊢
  have hgB2:=hf2.at hgB hnB;clear x0;have x0:w2.cell? ⟨w.heap.size,0,none⟩=some (.pointer (some ⟨b,0,none⟩)):=by rw[zc hgB2];rfl
  go_wp2_with fail
  refine(HF.out _ _ h2).mono ?_;rintro e w3 ⟨rfl,h3,hf3⟩;go_wp2_with fail
  go_ret;exact⟨ret_val (by rw[HQ.out];rfl),by rw[HQ.out];exact h3,(hF0.trans hf2).trans hf3⟩
 ·rw[if_neg hn]at hq;have HQ:=zh hq;have t1:decide ((10000:Int)<(n:Int))=false:=by simp;omega
  have wn:IntKind.i64.wrap (n:Int)=(n:Int):=by rw[IntKind.wrap_i64];omega
  clear hq;go_in;go_upto_region 1 with (fail)
  generalize w.alloc (.cells #[.pointer (some ⟨b,0,none⟩)] 75)=W1 at *;have x0:W1.cell? ⟨w.heap.size,0,none⟩=some (.pointer (some ⟨b,0,none⟩)):=by rw[zc hgB];rfl
  go_wp2_with fail
  refine(HC.out).mono ?_;rintro e w2 ⟨rfl,h2,hf2⟩;dsimp only at h2 ⊢
  go_wp2_with fail
  go_ret;exact⟨ret_val (by rw[HQ.out];rfl),by rw[HQ.out];exact h2,hF0.trans hf2⟩
end
end Go.Proofs.YtepaaochgljcdaaGreatDoor
