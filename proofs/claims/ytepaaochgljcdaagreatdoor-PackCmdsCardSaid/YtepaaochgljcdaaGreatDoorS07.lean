/-
  G6, Yl, Ym, Yn, Yo in one text.
-/
import Derived.Deep.AppendLies
import Derived.Deep.CutBlock
import Derived.Deep.RegionLaw
import Derived.Test.YtepaaochgljcdaaGreatDoorS06
import Derived.Test.YtepaaochgljcdaaGreatDoorCl
set_option maxRecDepth 100000
set_option maxHeartbeats 8000000
namespace Go.Proofs.YtepaaochgljcdaaGreatDoor
section
open Go.RowKit
/-- a float's bytes, so many of them read -/
def fltI (l:List UInt8):Nat→Nat × Option (List UInt8)
 | 0=>(0,some l)
 | i+1=>((fltI l i).1*256+(outR 0 ((fltI l i).2.bind byteR)).1,(outR 0 ((fltI l i).2.bind byteR)).2)
theorem byteR_lt (st:Option (List UInt8)):(outR 0 (st.bind byteR)).1<256:=by
 cases st with
 | none=>show 0<256;omega
 | some l =>
  cases l with
  | nil=>show 0<256;omega
  | cons c l=>exact c.toNat_lt
theorem fltI_lt (l:List UInt8):∀ i,(fltI l i).1<256 ^ i
 | 0=>by show 0<1;omega
 | i+1=>by
  have h:=fltI_lt l i;have h2:=byteR_lt (fltI l i).2;show(fltI l i).1*256+(outR 0 ((fltI l i).2.bind byteR)).1<256 ^ (i+1);rw[Nat.pow_succ];omega
theorem fltI_yes (l:List UInt8):∀ i,i≤l.length→fltI l i=(beN (l.take i),some (l.drop i))
 | 0,_=>rfl
 | i+1,h=>by
  have e:=fltI_yes l i (by omega);have hd:l.drop i=l[i]::l.drop (i+1):=List.drop_eq_getElem_cons (by omega);have ht:l.take (i+1)=l.take i++[l[i]]:=by rw[List.take_succ_eq_append_getElem (by omega)]
  rw[fltI,e,ht,beN_snoc];show(beN (l.take i)*256+(outR 0 (byteR (l.drop i))).1,(outR 0 (byteR (l.drop i))).2)=_;rw[hd];rfl
theorem fltI_no (l:List UInt8):∀ i,l.length<i→(fltI l i).2=none
 | 0,h=>by omega
 | i+1,h=>by
  show(outR 0 ((fltI l i).2.bind byteR)).2=none;by_cases hi:l.length<i
  ·rw[fltI_no l i hi];rfl
  ·have e:=fltI_yes l i (by omega);rw[e];show(outR 0 (byteR (l.drop i))).2=none;rw[List.drop_eq_nil_of_le (by omega)];rfl
theorem rvalue_3 (s:ByteArray) (hs:s.size≤1000000) (b:Nat) (st:Option (List UInt8)) (p f dn:Nat) (hp:p≤200) (l2:List UInt8) (hkc:outR 0 ((begR dn p st).bind byteR)=(3,some l2)) (w:World) (h:RdAt b s st p w) :
  Calls Tryz.prog 129 #[.pointer (some ⟨b,0,none⟩),.int .i64 (dn:Int)] w (RVal b s f w ((rdFlt l2).map fun r=>(.mk 3 0 r.1 [] [] [],p+1,r.2))):=by
 have HY2:=zh (fun q (w:World) (h:RdAt b s q (p+1) w)=>rbyte_any b (p+1) s hs q w h);have HF:=zh (fun st (w:World) (h:RdAt b s st (p+1) w)=>rfail_any 5 (by decide) b (p+1) s st w h);have hbr:=fun n w=>bits_run n w
 have hfr:=frombits_run;have hsf:∀ (a:Addr) (x:Nat) (m:Mode) (w:World),(store a (.float .f64 x) m).run Tryz.prog w=stored Tryz.prog w a (.float .f64 x) m:=fun a x m w=>run_store _ w a _ m rfl
 have hbl:=h.lt;have h0:=h.below ((Below.refl _ _).alloc (Nat.le_refl _) (.cells #[.int .i64 0,.int .i64 0,.float .f64 0,.string ⟨#[]⟩,.slice none 0 0,.slice none 0 0] 28));have hg0:(w.alloc (.cells #[.int .i64 0,.int .i64 0,.float .f64 0,.string ⟨#[]⟩,.slice none 0 0,.slice none 0 0] 28)).heap[w.heap.size]?=some (.cells #[.int .i64 0,.int .i64 0,.float .f64 0,.string ⟨#[]⟩,.slice none 0 0,.slice none 0 0] 28 (0,0)):=heap_alloc_new w _;have hf0:=(Fr.refl [b] w).alloc (.cells #[.int .i64 0,.int .i64 0,.float .f64 0,.string ⟨#[]⟩,.slice none 0 0,.slice none 0 0] 28);have HB:=zh (fun w h=>rbegin_any dn b p (by omega) s st w h);have HY:=zh (fun w h=>(show Calls Tryz.prog 58 #[.pointer (some ⟨b,0,none⟩)] w (RdCall b s (p+1) w (.int .i64 3,some l2)) from by
  have:=rbyte_any b (p+1) s hs (begR dn p st) w h;rw[hkc]at this;exact this))
 clear h;generalize hgh:w.heap.size=P at *;have HP:=zh hgh;clear hgh;have hnP:P ∉ [b]:=by simp;omega
 go_in;go_wp2_with fail
 rw[HP.out];generalize w.alloc (.cells #[.int .i64 0,.int .i64 0,.float .f64 0,.string ⟨#[]⟩,.slice none 0 0,.slice none 0 0] 28)=W0 at *;refine(HB.out _ h0).mono ?_;rintro e w1 ⟨rfl,h1,hf1⟩;have hg1:=hf1.at hg0 hnP;have A1:=hf0.trans hf1;clear h0 hg0 hf1 hf0;go_wp2_with fail
 refine(HY.out _ h1).mono ?_;rintro e w2 ⟨rfl,h2,hf2⟩;dsimp only at h2 ⊢
 have hg2:=hf2.at hg1 hnP;have A2:=A1.trans hf2;clear h1 hg1 hf2 A1;go_upto_region 3 with (fail)
 have hgQ:(w2.alloc (.cells #[.int .i64 3,.int .i64 0,.float .f64 0,.string ⟨#[]⟩,.slice none 0 0,.slice none 0 0] 28)).heap[w2.heap.size]?=some (.cells #[.int .i64 3,.int .i64 0,.float .f64 0,.string ⟨#[]⟩,.slice none 0 0,.slice none 0 0] 28 (0,0)):=heap_alloc_new w2 _;have hPQ:P<w2.heap.size:=lt_of_block hg2;have hgP:=(Lib.alloc_old w2 (.cells #[.int .i64 3,.int .i64 0,.float .f64 0,.string ⟨#[]⟩,.slice none 0 0,.slice none 0 0] 28) P hPQ).trans hg2;have h3:=h2.below ((Below.refl _ _).alloc (Nat.le_refl _) (.cells #[.int .i64 3,.int .i64 0,.float .f64 0,.string ⟨#[]⟩,.slice none 0 0,.slice none 0 0] 28));have A3:=(A2.alloc (.cells #[.int .i64 3,.int .i64 0,.float .f64 0,.string ⟨#[]⟩,.slice none 0 0,.slice none 0 0] 28)).mono (m:=[b,P,w2.heap.size]) (by simp);clear h2 hg2 A2;generalize w2.alloc (.cells #[.int .i64 3,.int .i64 0,.float .f64 0,.string ⟨#[]⟩,.slice none 0 0,.slice none 0 0] 28)=w3 at *;generalize w2.heap.size=Q at *;have hbQ:b≠Q:=by omega
 have hbP:b≠P:=by omega
 have hPQ':P≠Q:=by omega
 obtain⟨k3,e3,hgr,hkr,g1,g2⟩:=h3;have r2:w3.cell? ⟨b,2,none⟩=some (.int .i64 e3):=by rw[zc hgr];rfl
 obtain⟨h1,hl1⟩:=g1 _ rfl;subst h1;have hr:RdAt b s (some l2) (p+1) w3:=⟨k3,0,hgr,hkr,(fun l h=>by cases h;exact⟨rfl,hl1⟩),(fun h=>nomatch h)⟩
 have HR:=zh hr;clear g1 g2 hgr hr hl1;obtain⟨q0,q1,q2,q3,q4,q5⟩:=cells6 hgQ;have HLT:=zh (fltI_lt l2);go_wp2_with fail
 clear q0 q1 q2 q3 q4 q5 r2;go_loopw [6,7] (fun bv iv wr=>∃ (i a:Nat) (q:Option (List UInt8)),bv=.int .u64 (a:Int)∧iv=.int .i64 (i:Int)∧i≤8∧Hid (fltI l2 i=(a,q))∧RdAt b s q (p+1) wr∧Fr [b] w3 wr) (fun _ iv _=>8 - (intOf iv).toNat)
 case atStart=>exact⟨0,0,some l2,rfl,rfl,by omega,rfl,HR.out,Fr.refl _ _⟩
 case round =>
  clear HR;obtain⟨i,a,q,rfl,rfl,hi,hE,hr,hfw⟩:=hrel;have hla:=HLT.out i;rw[hE.out]at hla;replace hla:a<256 ^ i:=hla;by_cases hlt:i<8
  ·have t7:decide ((i:Int)<8)=true:=by simp;omega
   have hE2:fltI l2 (i+1)=(a*256+(outR 0 (q.bind byteR)).1,(outR 0 (q.bind byteR)).2):=by rw[fltI,hE.out]
   have hHY:=HY2.out q wr hr;have hlb:=byteR_lt q;generalize outR 0 (q.bind byteR)=y at *;obtain⟨c,q2⟩:=y;dsimp only at hE2 hlb hHY;have HE2:=zh hE2;have HC:=zh hHY;have hp7:256 ^ i≤256 ^ 7:=Nat.pow_le_pow_right (by omega) (by omega);have hp8:(256:Nat) ^ 7=72057594037927936:=by decide
   have hA:a<72057594037927936:=by omega
   clear hE2 hHY hp7 hp8 hla;have w1:IntKind.u64.wrap ((a:Int)*256)=(a:Int)*256:=by rw[IntKind.wrap_u64];omega
   have w2':IntKind.u64.wrap (c:Int)=(c:Int):=by rw[IntKind.wrap_u64];omega
   have w4':IntKind.u64.wrap ((a:Int)*256+(c:Int))=(a:Int)*256+(c:Int):=by rw[IntKind.wrap_u64];omega
   go_wp2_with fail
   refine(HC.out).mono ?_;rintro e w4 ⟨rfl,h4,hf4⟩;dsimp only at h4 ⊢
   go_wp2_with fail
   go_roundw
   case rel=>exact⟨i+1,a*256+c,q2,by go_num,by go_num,by omega,HE2.out,h4,hfw.trans hf4⟩
   case measure=>simp[intOf];omega
  ·have t7:decide ((i:Int)<8)=false:=by simp;omega
   obtain rfl:i=8:=by omega
   have haF:F64 a:=by
    have:(256:Nat) ^ 8=18446744073709551616:=by decide
    unfold F64;omega
   have hgP4:=hfw.at hgP hnP;have hgQ4:=hfw.at hgQ (by simp;omega);have A4:=A3.trans (hfw.mono (m:=[b,P,Q]) (by simp));clear hgP hgQ A3 hla hfw;have hCa:=fun w=>rcanon_any a w
   have x2:wr.frozen? ⟨Q,2,none⟩=false:=Lib.frozen_of_heap hgQ4 2;have q2:wr.cell? ⟨Q,2,none⟩=some (.float .f64 0):=by rw[zc hgQ4];rfl
   have F5:=(Fr.refl [Q] wr).setCell ⟨Q,2,none⟩ (by simp) (.float .f64 a);have hgQ5:(wr.setCell ⟨Q,2,none⟩ (.float .f64 a)).heap[Q]?=some (.cells #[.int .i64 3,.int .i64 0,.float .f64 a,.string ⟨#[]⟩,.slice none 0 0,.slice none 0 0] 28 (0,0)):=heap_setN hgQ4 2 _;have hgP5:=F5.at hgP4 (by simp;omega);have h5:=RdAt.kept hr F5 (by simp;omega);have A5:=A4.trans (F5.mono (m:=[b,P,Q]) (by simp));clear hgP4 hgQ4 A4 hr;cases q with
   | none =>
    have HN:=zh (show rdFlt l2=none from by
     unfold rdFlt;by_cases hl:l2.length<8
     ·rw[if_pos hl]
     ·have:=hE.out;rw[fltI_yes l2 8 (by omega)]at this;cases this)
    clear hCa;go_upto_region 28 with (fail)
    clear x2 q2 F5 hE;generalize wr.setCell ⟨Q,2,none⟩ (.float .f64 a)=w5 at *;obtain⟨k3,e3,hgr,hkr,g1,g2⟩:=h5;have r2:w5.cell? ⟨b,2,none⟩=some (.int .i64 e3):=by rw[zc hgr];rfl
    have t1:(e3==0)=false:=beq_eq_false_iff_ne.2 (g2 rfl);have hr:RdAt b s none (p+1) w5:=⟨k3,e3,hgr,hkr,(fun _ h=>nomatch h),g2⟩;have HR:=zh hr;clear g1 g2 hgr hr;obtain⟨q0,q1,q2,q3,q4,q5⟩:=cells6 hgQ5;have e0:w5.cell? ⟨P,0,none⟩=some (.int .i64 0):=by rw[zc hgP5];rfl
    have z0:w5.frozen? ⟨P,0,none⟩=false:=Lib.frozen_of_heap hgP5 0;have e1:w5.cell? ⟨P,1,none⟩=some (.int .i64 0):=by rw[zc hgP5];rfl
    have z1:w5.frozen? ⟨P,1,none⟩=false:=Lib.frozen_of_heap hgP5 1;have e2:w5.cell? ⟨P,2,none⟩=some (.float .f64 0):=by rw[zc hgP5];rfl
    have z2:w5.frozen? ⟨P,2,none⟩=false:=Lib.frozen_of_heap hgP5 2;have e3:w5.cell? ⟨P,3,none⟩=some (.string ⟨#[]⟩):=by rw[zc hgP5];rfl
    have z3:w5.frozen? ⟨P,3,none⟩=false:=Lib.frozen_of_heap hgP5 3;have e4:w5.cell? ⟨P,4,none⟩=some (.slice none 0 0):=by rw[zc hgP5];rfl
    have z4:w5.frozen? ⟨P,4,none⟩=false:=Lib.frozen_of_heap hgP5 4;have e5:w5.cell? ⟨P,5,none⟩=some (.slice none 0 0):=by rw[zc hgP5];rfl
    have z5:w5.frozen? ⟨P,5,none⟩=false:=Lib.frozen_of_heap hgP5 5;go_wp2_with fail
    have hgF:(((((((w5).setCell ⟨P,0,none⟩ (.int .i64 3)).setCell ⟨P,1,none⟩ (.int .i64 0)).setCell ⟨P,2,none⟩ (.float .f64 a)).setCell ⟨P,3,none⟩ (.string ⟨#[]⟩)).setCell ⟨P,4,none⟩ (.slice none 0 0)).setCell ⟨P,5,none⟩ (.slice none 0 0)).heap[P]?=some (.cells #[.int .i64 3,.int .i64 0,.float .f64 a,.string ⟨#[]⟩,.slice none 0 0,.slice none 0 0] 28 (0,0)):=heap_setN (heap_setN (heap_setN (heap_setN (heap_setN (heap_setN hgP5 0 _) 1 _) 2 _) 3 _) 4 _) 5 _;have FF:=((((((Fr.refl [P] w5).setCell ⟨P,0,none⟩ (by simp) (.int .i64 3)).setCell ⟨P,1,none⟩ (by simp) (.int .i64 0)).setCell ⟨P,2,none⟩ (by simp) (.float .f64 a)).setCell ⟨P,3,none⟩ (by simp) (.string ⟨#[]⟩)).setCell ⟨P,4,none⟩ (by simp) (.slice none 0 0)).setCell ⟨P,5,none⟩ (by simp) (.slice none 0 0);clear e0 z0 q0 e1 z1 q1 e2 z2 q2 e3 z3 q3 e4 z4 q4 e5 z5 q5;generalize ((((((w5).setCell ⟨P,0,none⟩ (.int .i64 3)).setCell ⟨P,1,none⟩ (.int .i64 0)).setCell ⟨P,2,none⟩ (.float .f64 a)).setCell ⟨P,3,none⟩ (.string ⟨#[]⟩)).setCell ⟨P,4,none⟩ (.slice none 0 0)).setCell ⟨P,5,none⟩ (.slice none 0 0)=X at *;obtain⟨y0,y1,y2,y3,y4,y5⟩:=cells6 hgF;have hrX:=RdAt.kept HR.out FF (by simpa using hbP);have hff:=(A5.trans (FF.mono (m:=[b,P,Q]) (by simp))).fewer3 (by have:=HP.out;omega) (by have:=HP.out;omega);refine bodyPost_ret (v:=.agg #[.int .i64 3,.int .i64 0,.float .f64 a,.string ⟨#[]⟩,.slice none 0 0,.slice none 0 0]) (by simp[results,Tryz.results129,go_sem,y0,y1,y2,y3,y4,y5]) rfl ?_;exact⟨.mk 3 0 a [] [] [],_,p+1,none,rfl,ValIn.leaf (t:=[]) (by omega) (by omega) haF (by simp) f,hrX,hff,by rw[HN.out];rfl⟩
   | some l5 =>
    have hl8:¬ l2.length<8:=fun hl=>by
     have:=fltI_no l2 8 hl;rw[hE.out]at this;cases this
    have hy:=fltI_yes l2 8 (by omega);rw[hE.out]at hy;injection hy with hy1 hy2
    injection hy2 with hy2
    have hN:rdFlt l2=if canon a=a then some (a,l5) else none:=by
     unfold rdFlt;rw[if_neg hl8,←hy1,←hy2]
    clear hl8 hy1 hy2;by_cases hca:canon a=a
    ·rw[if_pos hca]at hN;have HN:=zh hN;have HCa:=zh (fun w=>(show Calls Tryz.prog 121 #[.float .f64 a] w (fun e w'=>e=.returned (.float .f64 a)∧w=w') from by have:=hCa w;rw[hca]at this;exact this));clear hCa hca hN;go_upto_region 28 with (fail)
     clear x2 q2 F5 hE;generalize wr.setCell ⟨Q,2,none⟩ (.float .f64 a)=w5 at *;obtain⟨k3,e3,hgr,hkr,g1,g2⟩:=h5;have r2:w5.cell? ⟨b,2,none⟩=some (.int .i64 e3):=by rw[zc hgr];rfl
     obtain⟨h1,hl1⟩:=g1 _ rfl;subst h1;have hr:RdAt b s (some l5) (p+1) w5:=⟨k3,0,hgr,hkr,(fun l h=>by cases h;exact⟨rfl,hl1⟩),(fun h=>nomatch h)⟩
     have HR:=zh hr;clear g1 g2 hgr hr hl1;obtain⟨q0,q1,q2,q3,q4,q5⟩:=cells6 hgQ5;go_wp2_with fail
     refine(HCa.out _).mono ?_;rintro e w' ⟨rfl,rfl⟩;clear q0 q1 q2 q3 q4 q5;obtain⟨q0,q1,q2,q3,q4,q5⟩:=cells6 hgQ5;have e0:w5.cell? ⟨P,0,none⟩=some (.int .i64 0):=by rw[zc hgP5];rfl
     have z0:w5.frozen? ⟨P,0,none⟩=false:=Lib.frozen_of_heap hgP5 0;have e1:w5.cell? ⟨P,1,none⟩=some (.int .i64 0):=by rw[zc hgP5];rfl
     have z1:w5.frozen? ⟨P,1,none⟩=false:=Lib.frozen_of_heap hgP5 1;have e2:w5.cell? ⟨P,2,none⟩=some (.float .f64 0):=by rw[zc hgP5];rfl
     have z2:w5.frozen? ⟨P,2,none⟩=false:=Lib.frozen_of_heap hgP5 2;have e3:w5.cell? ⟨P,3,none⟩=some (.string ⟨#[]⟩):=by rw[zc hgP5];rfl
     have z3:w5.frozen? ⟨P,3,none⟩=false:=Lib.frozen_of_heap hgP5 3;have e4:w5.cell? ⟨P,4,none⟩=some (.slice none 0 0):=by rw[zc hgP5];rfl
     have z4:w5.frozen? ⟨P,4,none⟩=false:=Lib.frozen_of_heap hgP5 4;have e5:w5.cell? ⟨P,5,none⟩=some (.slice none 0 0):=by rw[zc hgP5];rfl
     have z5:w5.frozen? ⟨P,5,none⟩=false:=Lib.frozen_of_heap hgP5 5;go_wp2_with fail
     have hgF:(((((((w5).setCell ⟨P,0,none⟩ (.int .i64 3)).setCell ⟨P,1,none⟩ (.int .i64 0)).setCell ⟨P,2,none⟩ (.float .f64 a)).setCell ⟨P,3,none⟩ (.string ⟨#[]⟩)).setCell ⟨P,4,none⟩ (.slice none 0 0)).setCell ⟨P,5,none⟩ (.slice none 0 0)).heap[P]?=some (.cells #[.int .i64 3,.int .i64 0,.float .f64 a,.string ⟨#[]⟩,.slice none 0 0,.slice none 0 0] 28 (0,0)):=heap_setN (heap_setN (heap_setN (heap_setN (heap_setN (heap_setN hgP5 0 _) 1 _) 2 _) 3 _) 4 _) 5 _;have FF:=((((((Fr.refl [P] w5).setCell ⟨P,0,none⟩ (by simp) (.int .i64 3)).setCell ⟨P,1,none⟩ (by simp) (.int .i64 0)).setCell ⟨P,2,none⟩ (by simp) (.float .f64 a)).setCell ⟨P,3,none⟩ (by simp) (.string ⟨#[]⟩)).setCell ⟨P,4,none⟩ (by simp) (.slice none 0 0)).setCell ⟨P,5,none⟩ (by simp) (.slice none 0 0);clear e0 z0 q0 e1 z1 q1 e2 z2 q2 e3 z3 q3 e4 z4 q4 e5 z5 q5;generalize ((((((w5).setCell ⟨P,0,none⟩ (.int .i64 3)).setCell ⟨P,1,none⟩ (.int .i64 0)).setCell ⟨P,2,none⟩ (.float .f64 a)).setCell ⟨P,3,none⟩ (.string ⟨#[]⟩)).setCell ⟨P,4,none⟩ (.slice none 0 0)).setCell ⟨P,5,none⟩ (.slice none 0 0)=X at *;obtain⟨y0,y1,y2,y3,y4,y5⟩:=cells6 hgF;have hrX:=RdAt.kept HR.out FF (by simpa using hbP);have hff:=(A5.trans (FF.mono (m:=[b,P,Q]) (by simp))).fewer3 (by have:=HP.out;omega) (by have:=HP.out;omega);refine bodyPost_ret (v:=.agg #[.int .i64 3,.int .i64 0,.float .f64 a,.string ⟨#[]⟩,.slice none 0 0,.slice none 0 0]) (by simp[results,Tryz.results129,go_sem,y0,y1,y2,y3,y4,y5]) rfl ?_;exact⟨.mk 3 0 a [] [] [],_,p+1,_,rfl,ValIn.leaf (t:=[]) (by omega) (by omega) haF (by simp) f,hrX,hff,by rw[HN.out];exact⟨rfl,rfl,rfl⟩⟩
    ·rw[if_neg hca]at hN;have HN:=zh hN;have HCa:=zh hCa;have tb:((canon a:Int) != (a:Int))=true:=by rw[bne_iff_ne];omega
     clear hCa hca hN;generalize canon a=ca at *;go_upto_region 28 with (fail)
     clear x2 q2 F5 hE;generalize wr.setCell ⟨Q,2,none⟩ (.float .f64 a)=w5 at *;obtain⟨k3,e3,hgr,hkr,g1,g2⟩:=h5;have r2:w5.cell? ⟨b,2,none⟩=some (.int .i64 e3):=by rw[zc hgr];rfl
     obtain⟨h1,hl1⟩:=g1 _ rfl;subst h1;have hr:RdAt b s (some l5) (p+1) w5:=⟨k3,0,hgr,hkr,(fun l h=>by cases h;exact⟨rfl,hl1⟩),(fun h=>nomatch h)⟩
     have HR:=zh hr;clear g1 g2 hgr hr hl1;obtain⟨q0,q1,q2,q3,q4,q5⟩:=cells6 hgQ5;go_wp2_with fail
     refine(HCa.out _).mono ?_;rintro e w' ⟨rfl,rfl⟩;go_wp2_with fail
     refine(HF.out _ _ HR.out).mono ?_;rintro e w6 ⟨rfl,h6,hf6⟩;have hgP6:=hf6.at hgP5 hnP;have hgQ6:=hf6.at hgQ5 (by simp;omega);have A6:=A5.trans (hf6.mono (m:=[b,P,Q]) (by simp));clear hgP5 hgQ5 A5 q0 q1 q2 q3 q4 q5 hf6 HR;obtain⟨q0,q1,q2,q3,q4,q5⟩:=cells6 hgQ6;have e0:w6.cell? ⟨P,0,none⟩=some (.int .i64 0):=by rw[zc hgP6];rfl
     have z0:w6.frozen? ⟨P,0,none⟩=false:=Lib.frozen_of_heap hgP6 0;have e1:w6.cell? ⟨P,1,none⟩=some (.int .i64 0):=by rw[zc hgP6];rfl
     have z1:w6.frozen? ⟨P,1,none⟩=false:=Lib.frozen_of_heap hgP6 1;have e2:w6.cell? ⟨P,2,none⟩=some (.float .f64 0):=by rw[zc hgP6];rfl
     have z2:w6.frozen? ⟨P,2,none⟩=false:=Lib.frozen_of_heap hgP6 2;have e3:w6.cell? ⟨P,3,none⟩=some (.string ⟨#[]⟩):=by rw[zc hgP6];rfl
     have z3:w6.frozen? ⟨P,3,none⟩=false:=Lib.frozen_of_heap hgP6 3;have e4:w6.cell? ⟨P,4,none⟩=some (.slice none 0 0):=by rw[zc hgP6];rfl
     have z4:w6.frozen? ⟨P,4,none⟩=false:=Lib.frozen_of_heap hgP6 4;have e5:w6.cell? ⟨P,5,none⟩=some (.slice none 0 0):=by rw[zc hgP6];rfl
     have z5:w6.frozen? ⟨P,5,none⟩=false:=Lib.frozen_of_heap hgP6 5;go_wp2_with fail
     have hgF:(((((((w6).setCell ⟨P,0,none⟩ (.int .i64 3)).setCell ⟨P,1,none⟩ (.int .i64 0)).setCell ⟨P,2,none⟩ (.float .f64 a)).setCell ⟨P,3,none⟩ (.string ⟨#[]⟩)).setCell ⟨P,4,none⟩ (.slice none 0 0)).setCell ⟨P,5,none⟩ (.slice none 0 0)).heap[P]?=some (.cells #[.int .i64 3,.int .i64 0,.float .f64 a,.string ⟨#[]⟩,.slice none 0 0,.slice none 0 0] 28 (0,0)):=heap_setN (heap_setN (heap_setN (heap_setN (heap_setN (heap_setN hgP6 0 _) 1 _) 2 _) 3 _) 4 _) 5 _;have FF:=((((((Fr.refl [P] w6).setCell ⟨P,0,none⟩ (by simp) (.int .i64 3)).setCell ⟨P,1,none⟩ (by simp) (.int .i64 0)).setCell ⟨P,2,none⟩ (by simp) (.float .f64 a)).setCell ⟨P,3,none⟩ (by simp) (.string ⟨#[]⟩)).setCell ⟨P,4,none⟩ (by simp) (.slice none 0 0)).setCell ⟨P,5,none⟩ (by simp) (.slice none 0 0);clear e0 z0 q0 e1 z1 q1 e2 z2 q2 e3 z3 q3 e4 z4 q4 e5 z5 q5;generalize ((((((w6).setCell ⟨P,0,none⟩ (.int .i64 3)).setCell ⟨P,1,none⟩ (.int .i64 0)).setCell ⟨P,2,none⟩ (.float .f64 a)).setCell ⟨P,3,none⟩ (.string ⟨#[]⟩)).setCell ⟨P,4,none⟩ (.slice none 0 0)).setCell ⟨P,5,none⟩ (.slice none 0 0)=X at *;obtain⟨y0,y1,y2,y3,y4,y5⟩:=cells6 hgF;have hrX:=RdAt.kept h6 FF (by simpa using hbP);have hff:=(A6.trans (FF.mono (m:=[b,P,Q]) (by simp))).fewer3 (by have:=HP.out;omega) (by have:=HP.out;omega);refine bodyPost_ret (v:=.agg #[.int .i64 3,.int .i64 0,.float .f64 a,.string ⟨#[]⟩,.slice none 0 0,.slice none 0 0]) (by simp[results,Tryz.results129,go_sem,y0,y1,y2,y3,y4,y5]) rfl ?_;exact⟨.mk 3 0 a [] [] [],_,p+1,_,rfl,ValIn.leaf (t:=[]) (by omega) (by omega) haF (by simp) f,hrX,hff,by rw[HN.out];rfl⟩
end
section
open Go.RowKit
/-- a block behind P that is neither row -/
def Sep (P:Nat) (pn pi:Value) (g:Nat):Prop:=P<g∧pn.ownBlock≠some g∧pi.ownBlock≠some g
structure Rows (P f:Nat) (ns:List (List UInt8)) (its:List VT) (pn pi:Value) (w:World):Prop where
 hn:w.ownsRow (P+1) 9 1 pn ns.length (ns.map fun s=>.string ⟨s.toArray⟩)
 hi:∃ xs,w.ownsRow (P+1) 28 6 pi its.length xs∧∀ i,i<its.length→∃ ds,ds.size=6∧ValIn (Sep P pn pi) w f (its.getD i noVT) ds∧∀ j,j<6→xs[i*6+j]?=ds[j]?
 ne:∀ g,pn.ownBlock=some g→pi.ownBlock≠some g
theorem own_lt {w:World} {base:Nat} {e:TypeId} {size:Nat} {v:Value} {n:Nat} {xs:List Value} (h:w.ownsRow base e size v n xs) {g:Nat} (hg:v.ownBlock=some g):base≤g∧g<w.heap.size :=
 (World.ownsRowF_of h).lt g hg
theorem Rows.nil (P f:Nat) (w:World):Rows P f [] [] (.slice none 0 0) (.slice none 0 0) w :=
 ⟨World.ownsRow_nil _ _ _ _,⟨[],World.ownsRow_nil _ _ _ _,fun i hi=>by simp at hi⟩,fun g hg=>by simp[Value.ownBlock]at hg⟩
theorem ValIn.grown {S T:Nat→Prop} {w w':World} {row:Option Nat} (hg:w.grownBy w' row) (hk:∀ g,S g→g<w.heap.size→T g∧some g≠row) {d:Nat} {v:VT} {cs:Array Value} (h:ValIn S w d v cs):ValIn T w' d v cs :=
 h.kept hg.size fun g h1 h2=>⟨(hk g h1 h2).1,hg.block g h2 (hk g h1 h2).2⟩
theorem Fr.grown {b:Nat} {w w':World} (h:Fr [b] w w'):w.grownBy w' (some b):=⟨h.os,h.tape,h.output,h.size,fun k hk hn=>h.block k hk (by simp;intro e;exact hn (by rw[e]))⟩
/-- what changes no block behind P -/
theorem Rows.far {P f:Nat} {ns:List (List UInt8)} {its:List VT} {pn pi:Value} {w w':World} {b:Nat} (h:Rows P f ns its pn pi w) (hg:w.grownBy w' (some b)) (hb:b≤P):Rows P f ns its pn pi w':=by
 obtain⟨hn,⟨xs,h1,h2⟩,ne⟩:=h;have keep:∀ {e:TypeId} {size:Nat} {v:Value} {n:Nat} {xs:List Value},w.ownsRow (P+1) e size v n xs→w'.ownsRow (P+1) e size v n xs:=fun h=>h.kept hg (by
  rcases hv:Value.ownBlock _ with _|k
  ·exact .inl rfl
  ·right;have:=own_lt h hv;intro e;injection e;omega)
 refine⟨keep hn,⟨xs,keep h1,fun i hi=>?_⟩,ne⟩;obtain⟨ds,d1,d2,d3⟩:=h2 i hi;exact⟨ds,d1,d2.grown hg fun g hS _=>⟨hS,fun e=>by injection e;have:=hS.1;omega⟩,d3⟩
theorem Rows.name {P f:Nat} {ns:List (List UInt8)} {its:List VT} {pn pi:Value} {w w':World} {s:List UInt8} {g cap H:Nat} (h:Rows P f ns its pn pi w)
  (hown:w'.ownsRow (P+1) 9 1 (.slice (some ⟨g,0,none⟩) (ns.length+1) cap) (ns.length+1) ((ns.map fun s=>.string ⟨s.toArray⟩)++[.string ⟨s.toArray⟩]))
  (hgr:w.grownBy w' pn.ownBlock) (hat:pn.ownBlock=some g∨g=H) (hH:w.heap.size≤H):Rows P f (ns++[s]) its (.slice (some ⟨g,0,none⟩) (ns.length+1) cap) pi w':=by
 obtain⟨hn,⟨xs,h1,h2⟩,ne⟩:=h;have hpi:∀ k,pi.ownBlock=some k→k<w.heap.size∧pn.ownBlock≠some k:=fun k hk=>⟨(own_lt h1 hk).2,fun e=>ne k e hk⟩
 refine⟨by simpa using hown,⟨xs,h1.kept hgr ?_,fun i hi=>?_⟩,fun k hk e=>?_⟩
 ·rcases hv:pi.ownBlock with _|k
  ·exact .inl rfl
  ·exact .inr fun e=>(hpi k hv).2 e.symm
 ·obtain⟨ds,d1,d2,d3⟩:=h2 i hi;refine⟨ds,d1,d2.grown hgr fun k hS hk=>⟨⟨hS.1,fun e=>?_,hS.2.2⟩,fun e=>hS.2.1 e.symm⟩,d3⟩;simp[Value.ownBlock]at e;subst e;rcases hat with hat|hat
  ·exact hS.2.1 hat
  ·omega
 ·simp[Value.ownBlock]at hk;subst hk;obtain⟨k1,k2⟩:=hpi _ e;rcases hat with hat|hat
  ·exact k2 hat
  ·omega
theorem Rows.item {P f:Nat} {ns:List (List UInt8)} {its:List VT} {pn pi:Value} {w w':World} {v:VT} {ds:Array Value} {g cap H:Nat} {xs:List Value} (h:Rows P f ns its pn pi w)
  (hx:w.ownsRow (P+1) 28 6 pi its.length xs) (hd:ds.size=6) (hv:ValIn (Sep P pn pi) w f v ds)
  (hown:w'.ownsRow (P+1) 28 6 (.slice (some ⟨g,0,none⟩) (its.length+1) cap) (its.length+1) (xs++ds.toList))
  (hgr:w.grownBy w' pi.ownBlock) (hat:pi.ownBlock=some g∨g=H) (hH:w.heap.size≤H):Rows P f ns (its++[v]) pn (.slice (some ⟨g,0,none⟩) (its.length+1) cap) w':=by
 obtain⟨hn,⟨ys,h1,h2⟩,ne⟩:=h;have hyx:ys=xs:=by
  rcases h1.2 with ⟨e1,e2⟩|⟨g1,cap1,cur1,e1,_,e3,_,_,_,e7⟩
  ·rcases hx.2 with ⟨_,_⟩|⟨g2,cap2,cur2,k1,_⟩
   ·have a:=h1.1;have b:=hx.1;rw[e2]at a b;simp at a b;rw[a,b]
   ·rw[e1]at k1;cases k1
  ·rcases hx.2 with ⟨k1,_⟩|⟨g2,cap2,cur2,k1,_,k3,_,_,_,k7⟩
   ·rw[e1]at k1;cases k1
   ·rw[e1]at k1;injection k1 with k1
    injection k1 with k1
    injection k1 with k1
    subst k1;rw[e3]at k3;injection k3 with k3
    injection k3 with k3
    subst k3;rw[←e7,←k7]
 subst hyx;have hpn:∀ k,pn.ownBlock=some k→k<w.heap.size∧pi.ownBlock≠some k:=fun k hk=>⟨(own_lt hn hk).2,ne k hk⟩
 have keep:∀ {x:VT} {cs:Array Value},ValIn (Sep P pn pi) w f x cs→ValIn (Sep P pn (.slice (some ⟨g,0,none⟩) (its.length+1) cap)) w' f x cs:=fun h=>h.grown hgr fun k hS hk=>⟨⟨hS.1,hS.2.1,fun e=>by
  simp[Value.ownBlock]at e;subst e;rcases hat with hat|hat
  ·exact hS.2.2 hat
  ·omega⟩,fun e=>hS.2.2 e.symm⟩
 have hl:ys.length=its.length*6:=h1.1;refine⟨hn.kept hgr ?_,⟨ys++ds.toList,by simpa using hown,fun i hi=>?_⟩,fun k hk e=>?_⟩
 ·rcases hv':pn.ownBlock with _|k
  ·exact .inl rfl
  ·exact .inr fun e=>(hpn k hv').2 e.symm
 ·rw[List.length_append]at hi;by_cases hlt:i<its.length
  ·obtain⟨cs,d1,d2,d3⟩:=h2 i hlt;refine⟨cs,d1,?_,fun j hj=>?_⟩
   ·rw[show(its++[v]).getD i noVT=its.getD i noVT by simp[List.getD,List.getElem?_append_left hlt]];exact keep d2
   ·rw[List.getElem?_append_left (by omega)];exact d3 j hj
  ·have hi':i=its.length:=by simp at hi;omega
   subst hi';refine⟨ds,hd,?_,fun j hj=>?_⟩
   ·rw[show(its++[v]).getD its.length noVT=v by simp[List.getD]];exact keep hv
   ·rw[List.getElem?_append_right (by omega),show its.length*6+j - ys.length=j by omega];simp
 ·simp[Value.ownBlock]at e;subst e;obtain⟨k1,k2⟩:=hpn _ hk;rcases hat with hat|hat
  ·exact k2 hat
  ·omega
end
section
open Go.RowKit
theorem row_cell {w:World} {base:Nat} {e:TypeId} {size g n cap:Nat} {xs:List Value} (h:w.ownsRow base e size (.slice (some ⟨g,0,none⟩) n cap) n xs) {j:Nat} {u:Value} (hu:xs[j]?=some u):w.cell? ⟨g,0+j,none⟩=some u:=by
 have:=World.ownsRow.cells (g:=g) h rfl j u hu;have hadd:(⟨g,0,none⟩:Addr).add j=⟨g,j,none⟩:=by unfold Addr.add;split<;>simp_all
 rw[hadd]at this;rw[Nat.zero_add];exact this
theorem Rows.node {P f:Nat} {ns:List (List UInt8)} {its:List VT} {pn pi:Value} {w:World} (h:Rows P f ns its pn pi w) {K:Int} (hK : -9223372036854775808≤K∧K≤9223372036854775807)
  (h1:ns.length≤1000) (h2:∀ s ∈ ns,s.length≤1000) (h3:its.length≤1000):ValIn (fun g=>P<g) w (f+1) (.mk K 0 0 [] ns its) #[.int .i64 K,.int .i64 0,.float .f64 0,.string ⟨#[]⟩,pn,pi]:=by
 obtain⟨hn,⟨xs,hx,hc⟩,_⟩:=h;refine⟨pn,pi,rfl,hK,by simp only[VT.num];omega,by simp only[VT.flt];unfold F64;omega,by simp[VT.str],⟨Nat.le_trans h1 (by decide),fun s hs=>Nat.le_trans (h2 s hs) (by decide),?_⟩,Nat.le_trans h3 (by decide),?_⟩
 ·rcases hn.2 with ⟨e1,e2⟩|⟨g,cap,cur,e1,e2,e3,_⟩
  ·exact .inl ⟨List.length_eq_zero_iff.1 e2,_,_,e1⟩
  ·subst e1;refine .inr ⟨g,0,cap,rfl,⟨by omega,(Array.getElem?_eq_some_iff.1 e3).1⟩,fun i hi=>row_cell hn ?_⟩;have hi:i<ns.length:=hi;simp[VT.names,List.getD,hi]
 ·rcases hx.2 with ⟨e1,e2⟩|⟨g,cap,cur,e1,e2,e3,_⟩
  ·exact .inl ⟨List.length_eq_zero_iff.1 e2,_,_,e1⟩
  ·subst e1;refine .inr ⟨g,0,cap,rfl,⟨by omega,(Array.getElem?_eq_some_iff.1 e3).1⟩,fun i hi=>?_⟩;obtain⟨ds,d1,d2,d3⟩:=hc i hi;refine⟨ds,d2.kept (Nat.le_refl _) fun k hS _=>⟨by have:=hS.1;omega,rfl⟩,fun j hj=>?_⟩;have hd:=d3 j hj;rw[show ds[j]?=some (ds[j]'(by omega)) from Array.getElem?_eq_getElem (by omega)]at hd ⊢
   rw[show 0+i*6+j=0+(i*6+j) by omega];exact row_cell hx hd
/-- names and items read ahead of what follows -/
def preI (a:List (List UInt8)) (b:List VT):Option (List (List UInt8) × List VT × Nat × List UInt8)→Option (List (List UInt8) × List VT × Nat × List UInt8)
 | none=>none
 | some c=>some (a++c.1,b++c.2.1,c.2.2)
theorem preI_nil (r:Option (List (List UInt8) × List VT × Nat × List UInt8)):preI [] [] r=r:=by cases r<;>rfl
theorem items_step5 {rv:Nat→List UInt8→Option (VT × Nat × List UInt8)} {n p:Nat} {l:List UInt8} (its:List VT) :
  preI [] its (rdItems rv false (n+1) p l)=(match rv p l with|none=>none|some b=>preI [] (its++[b.1]) (rdItems rv false n b.2.1 b.2.2)):=by
 rw[rdItems];simp only[Bool.false_eq_true,if_false];cases rv p l with
 | none=>rfl
 | some b =>
  dsimp only;cases rdItems rv false n b.2.1 b.2.2 with
  | none=>rfl
  | some c=>simp[preI]
theorem items_step6 {rv:Nat→List UInt8→Option (VT × Nat × List UInt8)} {n p:Nat} {l:List UInt8} (ns:List (List UInt8)) (its:List VT) :
  preI ns its (rdItems rv true (n+1) p l)=(match rdStr 30 l with|none=>none|some a=>match rv p a.2 with|none=>none|some b=>preI (ns++[a.1]) (its++[b.1]) (rdItems rv true n b.2.1 b.2.2)):=by
 rw[rdItems];simp only[if_true];cases rdStr 30 l with
 | none=>rfl
 | some a =>
  dsimp only;cases rv p a.2 with
  | none=>rfl
  | some b =>
   dsimp only;cases rdItems rv true n b.2.1 b.2.2 with
   | none=>rfl
   | some c=>simp[preI]
end
section
open Go.RowKit
/-- the reader of values, within so many -/
def ReadsV (s:ByteArray) (b f:Nat):Prop:=∀ (k q:Nat) (w:World),k≤s.size→q≤200→RdB b s k q w →
  Calls Tryz.prog 127 #[.pointer (some ⟨b,0,none⟩),.int .i64 ((13 - f:Nat):Int)] w (RvPost b s f w (rdV f q (s.data.toList.drop k)))
theorem rdItems_p (rv:Nat→List UInt8→Option (VT × Nat × List UInt8)) (hrv:∀ p l v q t,rv p l=some (v,q,t)→q≤200) (named:Bool) :
  ∀ (n p:Nat) (l:List UInt8) (ns:List (List UInt8)) (its:List VT) (q:Nat) (t:List UInt8),p≤200→rdItems rv named n p l=some (ns,its,q,t)→q≤200
 | 0,p,l,ns,its,q,t,hp,h=>by
  rw[rdItems]at h;simp only[Option.some.injEq,Prod.mk.injEq]at h;omega
 | n+1,p,l,ns,its,q,t,hp,h=>by
  rw[rdItems]at h;split at h
  ·cases h
  split at h
  ·cases h
  rename_i b hb;split at h
  ·cases h
  rename_i c hc;obtain⟨b1,b2,b3⟩:=b;obtain⟨c1,c2,c3,c4⟩:=c;simp only[Option.some.injEq,Prod.mk.injEq]at h;have:=rdItems_p rv hrv named n _ _ _ _ _ _ (hrv _ _ _ _ _ hb) hc;omega
theorem rdV_p:∀ (f p:Nat) (l:List UInt8) (v:VT) (q:Nat) (t:List UInt8),rdV f p l=some (v,q,t)→q≤200
 | 0,p,l,v,q,t,h=>by rw[rdV]at h;cases h
 | f+1,p,l,v,q,t,h=>by
  by_cases hp:200≤p
  ·rw[rdV.eq_def]at h;dsimp only at h;rw[if_pos hp]at h;cases h
  cases l with
  | nil=>rw[rdV.eq_def]at h;dsimp only at h;rw[if_neg hp]at h;cases h
  | cons k l =>
   rw[rdV_step k l (by omega)]at h;have one:∀ {α:Type} {r:Option α} {g:α→VT × Nat × List UInt8},(match r with|none=>none|some x=>some (g x))=some (v,q,t)→(∀ x,(g x).2.1=p+1)→q≤200:=by
    intro α r g h hg;cases r with
    | none=>cases h
    | some x=>simp only[Option.some.injEq]at h;have:=hg x;rw[h]at this;simp at this;omega
   split at h
   ·split at h
    ·cases h
    ·simp only[Option.some.injEq,Prod.mk.injEq]at h;omega
   split at h
   ·split at h
    ·cases h
    ·simp only[Option.some.injEq,Prod.mk.injEq]at h;omega
   split at h
   ·split at h
    ·cases h
    ·simp only[Option.some.injEq,Prod.mk.injEq]at h;omega
   split at h
   ·split at h
    ·cases h
    ·simp only[Option.some.injEq,Prod.mk.injEq]at h;omega
   split at h
   ·split at h
    ·cases h
    split at h
    ·cases h
    split at h
    ·cases h
    rename_i c hc;obtain⟨c1,c2,c3,c4⟩:=c;simp only[Option.some.injEq,Prod.mk.injEq]at h;have:=rdItems_p (rdV f) (fun p l v q t h=>rdV_p f p l v q t h) _ _ _ _ _ _ _ _ (by omega) hc;omega
   ·cases h
theorem zero_VT:(Tryz.prog.info? 28).map (fun i=>(i.zero,i.size,i.bytes))=some (some (.agg #[.int .i64 0,.int .i64 0,.float .f64 0,.string ⟨#[]⟩,.slice none 0 0,.slice none 0 0]),6,88):=by kernel_rfl
end
section
open Go.RowKit
theorem ValIn.six {S:Nat→Prop} {w:World}:∀ {d:Nat} {v:VT} {cs:Array Value},ValIn S w d v cs→∃ na nl nc ia il ic,cs=#[.int .i64 v.kind,.int .i64 v.num,.float .f64 v.flt,.string ⟨v.str.toArray⟩,.slice na nl nc,.slice ia il ic]
 | 0,_,_,h=>h.elim
 | d+1,v,cs,h=>by
  obtain⟨pn,pi,rfl,_,_,_,_,⟨_,_,h6⟩,_,h8⟩:=h;rcases h6 with ⟨_,a,c,rfl⟩|⟨g,o,c,rfl,_⟩<;>rcases h8 with ⟨_,a',c',rfl⟩|⟨g',o',c',rfl,_⟩<;>exact⟨_,_,_,_,_,_,rfl⟩
theorem rows_ready {P f b:Nat} {ns:List (List UInt8)} {its:List VT} {pn pi:Value} {w w5:World} {v:VT} {cs:Array Value} (h:Rows P f ns its pn pi w) (V5:ValIn (fun g=>w.drew.heap.size≤g) w5 f v cs) (G2:Fr [b] w.drew w5) (hbl:b<P) (hP:P<w.heap.size) (o:Obj) :
  ∃ xs,(w5.alloc o).ownsRow (P+1) 28 6 pi its.length xs∧Rows P f ns its pn pi (w5.alloc o)∧ValIn (Sep P pn pi) (w5.alloc o) f v cs:=by
 have h1:Rows P f ns its pn pi w.drew:=h.far (b:=b) ⟨rfl,rfl,rfl,Nat.le_refl _,fun _ _ _=>rfl⟩ (by omega);have h2:=(h1.far G2.grown (by omega)).far (World.grownBy_alloc w5 o (some b)) (by omega);obtain⟨xs,hx,_⟩:=h2.hi;obtain⟨ys,hy,_⟩:=h.hi;refine⟨xs,hx,h2,V5.grown (World.grownBy_alloc w5 o none) fun g hg _=>⟨⟨by have:w.heap.size≤g:=hg;omega,fun e=>?_,fun e=>?_⟩,by simp⟩⟩
 ·have:g<w.heap.size:=(own_lt h.hn e).2;have h9:w.heap.size≤g:=hg;omega
 ·have:g<w.heap.size:=(own_lt hy e).2;have h9:w.heap.size≤g:=hg;omega
theorem cvalR_k5 (s:ByteArray) (hs:s.size≤100000000) (b k q f:Nat) (hf:f≤11) (hq:q<200) (hk:k<s.size) (hc:(s[k]'hk).toNat=5) (ih:ReadsV s b f) (w:World) (hb:RdB b s k q w) :
  Calls Tryz.prog 127 #[.pointer (some ⟨b,0,none⟩),.int .i64 ((12 - f:Nat):Int)] w (RvPost b s (f+1) w (rdV (f+1) q (s.data.toList.drop k))):=by
 have hL:s.data.toList.length=s.size:=by simp
 have hg:s.data.toList.getD k 0=s[k]'hk:=by simp[List.getD,hk];rfl
 have hR:=rdV_step (f:=f) (p:=q) (s.data.toList.getD k 0) (s.data.toList.drop (k+1)) hq;rw[←drop_byte (by rw[hL];exact hk),hg,hc]at hR;rw[if_neg (by decide),if_neg (by decide),if_neg (by decide),if_neg (by decide),if_pos (.inl rfl),show decide ((5:Nat)=6)=false from rfl]at hR;have HC:=fun w hb=>cmany_any s hs b (k+1) (q+1) (by omega) w hb
 have hdec:=fun n r=>@rdU_dec (s.data.toList.drop (k+1)) n r
 have hsuf:=fun(a r:List UInt8) (h:s.data.toList.drop (k+1)=a++r)=>suf_of h (by rw[hL];omega)
 have hsuf2:=fun(kk:Nat) (hkk:kk≤s.size) (a r:List UInt8) (h:s.data.toList.drop kk=a++r)=>suf_of h (by rw[hL];exact hkk)
 rw[hL]at hsuf hsuf2;have HSuf:=zh hsuf2;have HIH:=zh ih;have wD:IntKind.i64.wrap (((12 - f:Nat):Int)+1)=((13 - f:Nat):Int):=by rw[IntKind.wrap_i64];omega
 have hsf:∀ (a:Addr) (x:Nat) (m:Mode) (w:World),(store a (.float .f64 x) m).run Tryz.prog w=stored Tryz.prog w a (.float .f64 x) m:=fun a x m w=>run_store _ w a _ m rfl
 have HB:=zh (fun w hb=>(show Calls Tryz.prog 160 #[.pointer (some ⟨b,0,none⟩),.int .i64 ((12 - f:Nat):Int)] w (fun e w'=>e=.returned (.tuple #[])∧RdB b s k (q+1) w'∧Fr [b] w w') from by
  have h:=cbegin_any s b k q (12 - f) (by omega) (by omega) w hb;simp only[if_pos (show 12 - f≤12∧q<200 by omega)]at h;exact h))
 have HY:=zh (fun w hb=>(show Calls Tryz.prog 124 #[.pointer (some ⟨b,0,none⟩)] w (fun e w'=>e=.returned (.int .u8 5)∧RdB b s (k+1) (q+1) w'∧Fr [b] w w') from by
  have h:=cbyte_yes s (by omega) b k (q+1) hk w hb;rw[hc]at h;exact h))
 have hbl:=hb.lt;have hb0:RdB b s k q (w.alloc (.cells #[.int .i64 0,.int .i64 0,.float .f64 0,.string ⟨#[]⟩,.slice none 0 0,.slice none 0 0] 28)):=(Lib.alloc_old w _ b hbl).trans hb;have hf0:=(Fr.refl [b] w).alloc (.cells #[.int .i64 0,.int .i64 0,.float .f64 0,.string ⟨#[]⟩,.slice none 0 0,.slice none 0 0] 28);have hg0:(w.alloc (.cells #[.int .i64 0,.int .i64 0,.float .f64 0,.string ⟨#[]⟩,.slice none 0 0,.slice none 0 0] 28)).heap[w.heap.size]?=some (.cells #[.int .i64 0,.int .i64 0,.float .f64 0,.string ⟨#[]⟩,.slice none 0 0,.slice none 0 0] 28 (0,0)):=heap_alloc_new w _;generalize hgh:w.heap.size=P at *;have HP:=zh hgh;clear hgh;have hbP:b≠P:=by omega
 have hnP:P ∉ [b]:=by simp;omega
 have wk:IntKind.i64.wrap 5=5:=by decide
 rw[hR];clear hR hg hL hc hsuf2 ih;generalize rdU (s.data.toList.drop (k+1))=r at *;rcases r with _|⟨N,l⟩
 ·have HC:=zh HC;clear hdec hsuf;go_in;go_wp2_with fail
  rw[HP.out];generalize w.alloc (.cells #[.int .i64 0,.int .i64 0,.float .f64 0,.string ⟨#[]⟩,.slice none 0 0,.slice none 0 0] 28)=W0 at *;refine(HB.out _ hb0).mono ?_;rintro e w1 ⟨rfl,hb1,hf1⟩;have hg1:=hf1.at hg0 hnP;have A1:=hf0.trans hf1;clear hb0 hg0 hf1 hf0;go_wp2_with fail
  refine(HY.out _ hb1).mono ?_;rintro e w2 ⟨rfl,hb2,hf2⟩;have hg2:=hf2.at hg1 hnP;have A2:=(A1.trans hf2).mono (m:=[b,P]) (by simp);clear hb1 hg1 hf2 A1;have c0:w2.cell? ⟨P,0,none⟩=some (.int .i64 0):=by rw[zc hg2];rfl
  have z0:w2.frozen? ⟨P,0,none⟩=false:=Lib.frozen_of_heap hg2 0;have F3:=(Fr.refl [P] w2).setCell ⟨P,0,none⟩ (by simp) (.int .i64 5);have hg3:(w2.setCell ⟨P,0,none⟩ (.int .i64 5)).heap[P]?=some (.cells #[.int .i64 5,.int .i64 0,.float .f64 0,.string ⟨#[]⟩,.slice none 0 0,.slice none 0 0] 28 (0,0)):=heap_setN hg2 0 _;have hb3:=hb2.kept F3 (by simpa using hbP);have A3:=A2.trans (F3.mono (by simp));go_wp2_with fail
  clear c0 z0;generalize w2.setCell ⟨P,0,none⟩ (.int .i64 5)=w3 at *;have c0:w3.cell? ⟨P,0,none⟩=some (.int .i64 5):=by rw[zc hg3];rfl
  go_wp2_with fail
  refine(HC.out _ hb3).mono ?_;rintro e w4 ⟨⟨x,hx,rfl⟩,hf4⟩;go_wp2_with fail
  exact⟨rfl,⟨x,hx,rfl⟩,(A3.trans (hf4.mono (by simp))).fewer (Nat.le_of_eq HP.out)⟩
 ·obtain⟨hd1,_⟩:=hdec N l rfl;obtain⟨hs1,hs2⟩:=hsuf _ _ hd1;clear hdec hsuf hd1;by_cases hN:200<N
  ·have hmo:most200 (some (N,l))=none:=if_pos hN;rw[hmo]at HC;dsimp only;rw[if_pos hN];have HC:=zh HC;go_in;go_wp2_with fail
   rw[HP.out];generalize w.alloc (.cells #[.int .i64 0,.int .i64 0,.float .f64 0,.string ⟨#[]⟩,.slice none 0 0,.slice none 0 0] 28)=W0 at *;refine(HB.out _ hb0).mono ?_;rintro e w1 ⟨rfl,hb1,hf1⟩;have hg1:=hf1.at hg0 hnP;have A1:=hf0.trans hf1;clear hb0 hg0 hf1 hf0;go_wp2_with fail
   refine(HY.out _ hb1).mono ?_;rintro e w2 ⟨rfl,hb2,hf2⟩;have hg2:=hf2.at hg1 hnP;have A2:=(A1.trans hf2).mono (m:=[b,P]) (by simp);clear hb1 hg1 hf2 A1;have c0:w2.cell? ⟨P,0,none⟩=some (.int .i64 0):=by rw[zc hg2];rfl
   have z0:w2.frozen? ⟨P,0,none⟩=false:=Lib.frozen_of_heap hg2 0;have F3:=(Fr.refl [P] w2).setCell ⟨P,0,none⟩ (by simp) (.int .i64 5);have hg3:(w2.setCell ⟨P,0,none⟩ (.int .i64 5)).heap[P]?=some (.cells #[.int .i64 5,.int .i64 0,.float .f64 0,.string ⟨#[]⟩,.slice none 0 0,.slice none 0 0] 28 (0,0)):=heap_setN hg2 0 _;have hb3:=hb2.kept F3 (by simpa using hbP);have A3:=A2.trans (F3.mono (by simp));go_wp2_with fail
   clear c0 z0;generalize w2.setCell ⟨P,0,none⟩ (.int .i64 5)=w3 at *;have c0:w3.cell? ⟨P,0,none⟩=some (.int .i64 5):=by rw[zc hg3];rfl
   go_wp2_with fail
   refine(HC.out _ hb3).mono ?_;rintro e w4 ⟨⟨x,hx,rfl⟩,hf4⟩;go_wp2_with fail
   exact⟨rfl,⟨x,hx,rfl⟩,(A3.trans (hf4.mono (by simp))).fewer (Nat.le_of_eq HP.out)⟩
  ·have hmo:most200 (some (N,l))=some (N,l):=if_neg hN;rw[hmo]at HC;dsimp only;rw[if_neg hN];have HC:=zh HC;have hRR:rdItems (rdV f) false N (q+1) l=preI [] [] (rdItems (rdV f) false (N - 0) (q+1) (s.data.toList.drop (s.size - l.length))):=by rw[preI_nil,←hs1];rfl
   generalize rdItems (rdV f) false N (q+1) l=R at *;have HRR:=zh hRR;generalize hkk:s.size - l.length=kk at *;have HKK:=zh hkk;have hkl:kk≤s.size:=by omega
   clear hRR hs1 hs2 hkk hmo;go_in;go_wp2_with fail
   rw[HP.out];generalize w.alloc (.cells #[.int .i64 0,.int .i64 0,.float .f64 0,.string ⟨#[]⟩,.slice none 0 0,.slice none 0 0] 28)=W0 at *;refine(HB.out _ hb0).mono ?_;rintro e w1 ⟨rfl,hb1,hf1⟩;have hg1:=hf1.at hg0 hnP;have A1:=hf0.trans hf1;clear hb0 hg0 hf1 hf0;go_wp2_with fail
   refine(HY.out _ hb1).mono ?_;rintro e w2 ⟨rfl,hb2,hf2⟩;have hg2:=hf2.at hg1 hnP;have A2:=(A1.trans hf2).mono (m:=[b,P]) (by simp);clear hb1 hg1 hf2 A1;have c0:w2.cell? ⟨P,0,none⟩=some (.int .i64 0):=by rw[zc hg2];rfl
   have z0:w2.frozen? ⟨P,0,none⟩=false:=Lib.frozen_of_heap hg2 0;have F3:=(Fr.refl [P] w2).setCell ⟨P,0,none⟩ (by simp) (.int .i64 5);have hg3:(w2.setCell ⟨P,0,none⟩ (.int .i64 5)).heap[P]?=some (.cells #[.int .i64 5,.int .i64 0,.float .f64 0,.string ⟨#[]⟩,.slice none 0 0,.slice none 0 0] 28 (0,0)):=heap_setN hg2 0 _;have hb3:=hb2.kept F3 (by simpa using hbP);have A3:=A2.trans (F3.mono (by simp));go_wp2_with fail
   clear c0 z0;generalize w2.setCell ⟨P,0,none⟩ (.int .i64 5)=w3 at *;have c0:w3.cell? ⟨P,0,none⟩=some (.int .i64 5):=by rw[zc hg3];rfl
   go_wp2_with fail
   refine(HC.out _ hb3).mono ?_;rintro e w4 ⟨rfl,hb4,hf4⟩;dsimp only at hb4 ⊢
   rw[HKK.out]at hb4;have hg4:=hf4.at hg3 hnP;have A4:=A3.trans (hf4.mono (by simp));clear c0 hb3 hg3 hf4 A3 F3 hb2 hg2 A2;go_wp2_with fail
   go_loopw [45] (fun iv wr=>∃ (i p:Nat) (its:List VT) (pi:Value) (kk:Nat),i≤N∧iv=.int .i64 (i:Int)∧its.length=i∧p≤200∧kk≤s.size∧RdB b s kk p wr∧wr.heap[P]?=some (.cells #[.int .i64 5,.int .i64 0,.float .f64 0,.string ⟨#[]⟩,.slice none 0 0,pi] 28 (0,0))∧Fr [b,P] w wr∧Rows P f [] its (.slice none 0 0) pi wr∧Hid (R=preI [] its (rdItems (rdV f) false (N - i) p (s.data.toList.drop kk)))) (fun iv _=>N - (intOf iv).toNat)
   case atStart=>exact⟨0,q+1,[],.slice none 0 0,kk,by omega,rfl,rfl,by omega,hkl,hb4,hg4,A4,Rows.nil _ _ _,HRR.out⟩
   case round =>
    clear hb4 hg4 A4 HRR;obtain⟨i,p,its,pi,kk,hi,rfl,hil,hp,hkk,hbr,hgr,Ar,hrow,hE⟩:=hrel;obtain⟨pa,pl,pc,rfl⟩:∃ a c d,pi=.slice a c d:=by
     obtain⟨_,⟨xs,h1,_⟩,_⟩:=hrow;rcases h1.2 with ⟨h,_⟩|⟨g,cap,cur,h,_⟩
     ·exact⟨_,_,_,h⟩
     ·exact⟨_,_,_,h⟩
    obtain⟨c0,-,-,-,-,c5⟩:=cells6 hgr;by_cases hlt:i<N
    ·have t7:decide ((i:Int)<(N:Int))=true:=by simp;omega
     have hS:=hE.out;rw[show N - i=N - (i+1)+1 by omega,items_step5]at hS;have hI:=HIH.out kk p wr.drew hkk hp hbr.drew;have hvp:=fun v q t=>rdV_p f p (s.data.toList.drop kk) v q t
     have hvd:=fun v q t=>rdV_dec f p (s.data.toList.drop kk) v q t
     generalize rdV f p (s.data.toList.drop kk)=rv at *;cases rv with
     | none =>
      have HI:=zh hI;dsimp only at hS;subst hS;clear hI hvp hvd hE;go_wp2_with fail
      go_region_with ((go_at_call 127;(with_reducible refine(HI.out).mono ?_);rintro e w5 ⟨⟨x,hx,rfl⟩,hf5⟩;refine shut_way (w:=wr) ⟨rfl,⟨x,hx,rfl⟩,(Ar.drew.trans (hf5.mono (by simp))).fewer (Nat.le_of_eq HP.out)⟩ ?_))
      all_goals trivial
     | some v =>
      obtain⟨v,p',l'⟩:=v;dsimp only at hS;have hp':=hvp v p' l' rfl;obtain⟨e1,e2⟩:=HSuf.out kk hkk _ _ (hvd v p' l' rfl).1;clear hvp hvd hE;have HI:=zh hI;have HSS:=zh hS;have HE1:=zh e1;clear hI hS e1;obtain⟨i0,hi0,hz0,hz1,hz2⟩:=Go.info_parts zero_VT;have HII:=zh hi0;have HZ0:=zh hz0;have HZ1:=zh hz1;have HZ2:=zh hz2;clear hi0 hz0 hz1 hz2;have HIL:=zh hil;have hPr:=lt_of_block hgr;have HK:=zh (fun(x:World) (h:x.heap[P]?=some (.cells #[.int .i64 5,.int .i64 0,.float .f64 0,.string ⟨#[]⟩,.slice none 0 0,.slice pa pl pc] 28 (0,0)))=>(show x.cell? ⟨P,5,none⟩=some (.slice pa pl pc)∧x.frozen? ⟨P,5,none⟩=false from⟨by rw[zc h];rfl,Lib.frozen_of_heap h 5⟩));go_wp2_with fail
      go_region_law (first
        | ((go_simp;go_at_call 127;(with_reducible refine(HI.out).mono ?_);rintro e w5 ⟨cs,rfl,V5,G1,G2⟩;obtain⟨na,nl,nc,ia,il,ic,rfl⟩:=V5.six;have g5:=G2.at hgr hnP;obtain⟨k5,z5⟩:=HK.out _ g5;have a5:=(World.cell?_alloc_some w5 _ (.cells #[.int .i64 v.kind,.int .i64 v.num,.float .f64 v.flt,.string ⟨v.str.toArray⟩,.slice na nl nc,.slice ia il ic] 28) (by rw[k5];rfl)).trans k5;obtain⟨xs,hx,hrA,hvA⟩:=rows_ready hrow V5 G2 hbl hPr (.cells #[.int .i64 v.kind,.int .i64 v.num,.float .f64 v.flt,.string ⟨v.str.toArray⟩,.slice na nl nc,.slice ia il ic] 28);dsimp only))
        | ((refine step_append_lies _ (by rfl) _ _ _ (by rfl) (P+1) 28 i0 _ 6 88 Tryz.underlying26 HII.out HZ0.out HZ1.out HZ2.out rfl (by omega) (.slice pa pl pc) its.length xs (by rfl) hx ⟨w5.heap.size,0,none⟩ 1 1 [.int .i64 v.kind,.int .i64 v.num,.float .f64 v.flt,.string ⟨v.str.toArray⟩,.slice na nl nc,.slice ia il ic] (by rfl) (by rfl) (World.news_of_block (cs:=#[.int .i64 v.kind,.int .i64 v.num,.float .f64 v.flt,.string ⟨v.str.toArray⟩,.slice na nl nc,.slice ia il ic]) (t:=28) (fr:=(0,0)) (heap_alloc_new w5 _)) (by simp[Value.oneCell']) (by omega) (by unfold maxLen;omega) (by omega) (by have:=G2.size;simp at this ⊢;omega) (w5.heap.size+1) (by simp) ?_;intro g cap u4 hown4 hgrow hat hlt4;have hrF:=hrA.item hx (by rfl) hvA hown4 hgrow hat (by simp);have hnO:∀ k,k≤P→some k≠Value.ownBlock (.slice pa pl pc):=fun k hk e=>absurd (own_lt hx e.symm).1 (Nat.not_le_of_lt (Nat.lt_succ_of_le hk));have g4:=(hgrow.block P (Nat.lt_of_lt_of_le (lt_of_block g5) (by simp)) (hnO P (Nat.le_refl _))).trans ((Lib.alloc_old w5 _ P (lt_of_block g5)).trans g5);obtain⟨k4,z4⟩:=HK.out _ g4)))
      all_goals
       go_wp2_with fail
       have hbu:b<w5.heap.size:=lt_of_block G1;have F6:=(Fr.refl [P] u4).setCell ⟨P,5,none⟩ (by simp) (.slice (some ⟨g,0,none⟩) (its.length+1) cap);have g6:(u4.setCell ⟨P,5,none⟩ (.slice (some ⟨g,0,none⟩) (its.length+1) cap)).heap[P]?=some (.cells #[.int .i64 5,.int .i64 0,.float .f64 0,.string ⟨#[]⟩,.slice none 0 0,.slice (some ⟨g,0,none⟩) (its.length+1) cap] 28 (0,0)):=heap_setN g4 5 _;have b6:RdB b s (s.size - l'.length) p' (u4.setCell ⟨P,5,none⟩ (.slice (some ⟨g,0,none⟩) (its.length+1) cap)):=(RdB.kept (((hgrow.block b (Nat.lt_of_lt_of_le hbu (by simp)) (hnO b (by omega))).trans (Lib.alloc_old w5 _ b hbu)).trans G1) F6 (by simpa using hbP));have A5:Fr [b,P] w (w5.alloc (.cells #[.int .i64 v.kind,.int .i64 v.num,.float .f64 v.flt,.string ⟨v.str.toArray⟩,.slice na nl nc,.slice ia il ic] 28)):=(Ar.drew.trans (G2.mono (by simp))).alloc _;have fg:Fr [b,P] w u4:=⟨hgrow.os.trans A5.os,hgrow.tape.trans A5.tape,hgrow.output.trans A5.output,Nat.le_trans A5.size hgrow.size,fun k hk hn=>(hgrow.block k (Nat.lt_of_lt_of_le hk A5.size) (hnO k (by have:=HP.out;omega))).trans (A5.block k hk hn)⟩;have r6:Rows P f [] (its++[v]) (.slice none 0 0) (.slice (some ⟨g,0,none⟩) (its.length+1) cap) (u4.setCell ⟨P,5,none⟩ (.slice (some ⟨g,0,none⟩) (its.length+1) cap)):=hrF.far (b:=P) F6.grown (Nat.le_refl _);rw[HIL.out]at b6 g6 F6 r6;go_roundw
       case rel=>exact⟨i+1,p',its++[v],_,s.size - l'.length,by omega,by go_num,by simp;exact HIL.out,hp',by omega,b6,g6,fg.trans (F6.mono (by simp)),r6,by show _=_;rw[←HE1.out];exact HSS.out⟩
       case measure=>simp[intOf];omega
    ·have t7:decide ((i:Int)<(N:Int))=false:=by simp;omega
     have hiN:i=N:=by omega
     have hS:=hE.out;rw[show N - i=0 by omega,rdItems]at hS;simp only[preI,List.append_nil]at hS;subst hS;have hnode:=hrow.node (K:=5) (by omega) (by simp) (fun s hs=>nomatch hs) (by omega);have HD:=zh (show s.size - (s.data.toList.drop kk).length=kk by rw[List.length_drop];show s.size - (s.data.size - kk)=kk;have:s.data.size=s.size:=rfl;omega);clear c5;go_upto_region 22 with (fail)
     clear c0;have e0:wr.cell? ⟨P,0,none⟩=some (.int .i64 5):=by rw[zc hgr];rfl
     have z0:wr.frozen? ⟨P,0,none⟩=false:=Lib.frozen_of_heap hgr 0;have e1:wr.cell? ⟨P,1,none⟩=some (.int .i64 0):=by rw[zc hgr];rfl
     have z1:wr.frozen? ⟨P,1,none⟩=false:=Lib.frozen_of_heap hgr 1;have e2:wr.cell? ⟨P,2,none⟩=some (.float .f64 0):=by rw[zc hgr];rfl
     have z2:wr.frozen? ⟨P,2,none⟩=false:=Lib.frozen_of_heap hgr 2;have e3:wr.cell? ⟨P,3,none⟩=some (.string ⟨#[]⟩):=by rw[zc hgr];rfl
     have z3:wr.frozen? ⟨P,3,none⟩=false:=Lib.frozen_of_heap hgr 3;have e4:wr.cell? ⟨P,4,none⟩=some (.slice none 0 0):=by rw[zc hgr];rfl
     have z4:wr.frozen? ⟨P,4,none⟩=false:=Lib.frozen_of_heap hgr 4;have e5:wr.cell? ⟨P,5,none⟩=some (.slice pa pl pc):=by rw[zc hgr];rfl
     have z5:wr.frozen? ⟨P,5,none⟩=false:=Lib.frozen_of_heap hgr 5;go_wp2_with fail
     have hgF:(((((((wr).setCell ⟨P,0,none⟩ (.int .i64 5)).setCell ⟨P,1,none⟩ (.int .i64 0)).setCell ⟨P,2,none⟩ (.float .f64 0)).setCell ⟨P,3,none⟩ (.string ⟨#[]⟩)).setCell ⟨P,4,none⟩ (.slice none 0 0)).setCell ⟨P,5,none⟩ (.slice pa pl pc)).heap[P]?=some (.cells #[.int .i64 5,.int .i64 0,.float .f64 0,.string ⟨#[]⟩,.slice none 0 0,.slice pa pl pc] 28 (0,0)):=heap_setN (heap_setN (heap_setN (heap_setN (heap_setN (heap_setN hgr 0 _) 1 _) 2 _) 3 _) 4 _) 5 _;have FF:=((((((Fr.refl [P] wr).setCell ⟨P,0,none⟩ (by simp) (.int .i64 5)).setCell ⟨P,1,none⟩ (by simp) (.int .i64 0)).setCell ⟨P,2,none⟩ (by simp) (.float .f64 0)).setCell ⟨P,3,none⟩ (by simp) (.string ⟨#[]⟩)).setCell ⟨P,4,none⟩ (by simp) (.slice none 0 0)).setCell ⟨P,5,none⟩ (by simp) (.slice pa pl pc);clear e0 z0 e1 z1 e2 z2 e3 z3 e4 z4 e5 z5;generalize ((((((wr).setCell ⟨P,0,none⟩ (.int .i64 5)).setCell ⟨P,1,none⟩ (.int .i64 0)).setCell ⟨P,2,none⟩ (.float .f64 0)).setCell ⟨P,3,none⟩ (.string ⟨#[]⟩)).setCell ⟨P,4,none⟩ (.slice none 0 0)).setCell ⟨P,5,none⟩ (.slice pa pl pc)=X at *;obtain⟨y0,y1,y2,y3,y4,y5⟩:=cells6 hgF;have hrX:=hbr.kept FF (by simpa using hbP);have hff:=(Ar.trans (FF.mono (m:=[b,P]) (by simp))).fewer (Nat.le_of_eq HP.out);refine bodyPost_ret (v:=.agg #[.int .i64 5,.int .i64 0,.float .f64 0,.string ⟨#[]⟩,.slice none 0 0,.slice pa pl pc]) (by simp[results,Tryz.results127,go_sem,y0,y1,y2,y3,y4,y5]) rfl ?_;exact⟨_,rfl,hnode.kept FF.size (fun g hg hl=>⟨by have:=HP.out;omega,FF.block g hl (by simp;omega)⟩),by rw[HD.out];exact hrX,hff⟩
end
end Go.Proofs.YtepaaochgljcdaaGreatDoor
