/-
  Ag, Ah, Am in one text.
-/
import Derived.Test.YtepaaochgljcdaaGreatDoorS13
import Derived.Test.YtepaaochgljcdaaGreatDoorCl
set_option maxRecDepth 100000
set_option maxHeartbeats 4000000
namespace Go.Proofs.YtepaaochgljcdaaGreatDoor
section
open Go.RowKit
/-- what In.val leaves -/
def InV (b p:Nat) (s:ByteArray) (w:World) (r:Option (VT × List UInt8)) (e:Ending) (w':World):Prop :=
 ∃ v cs st,e=.returned (.agg cs)∧ValIn (fun g=>w.heap.size≤g) w' 13 v cs∧RdAt b s st p w'∧Fr [b] w w'∧IsO r v st
theorem not_one {a g:Nat} (h:a+1≤g):g ∉ [a]:=by simp;omega
/-- behind ReadValue: its answer lies in block Q -/
structure InMid (b p k:Nat) (e:Int) (s:ByteArray) (P Q:Nat) (w wx:World) (vs:Array Value):Prop where
 hQ:wx.heap[Q]?=some (.cells vs 28 (0,0))
 hr:wx.heap[b]?=some (.cells #[.string s,.int .i64 (k:Int),.int .i64 e,.int .i64 (p:Int)] 77 (0,0))
 hB:wx.heap[w.heap.size]?=some (.cells #[.pointer (some ⟨b,0,none⟩)] 75 (0,0))
 hP:wx.heap[P]?=some (.cells #[.int .i64 0,.int .i64 0,.float .f64 0,.string ⟨#[]⟩,.slice none 0 0,.slice none 0 0] 28 (0,0))
 A:Fr [b] w wx
 q1:P<Q
 q2:b<Q
 q3:w.heap.size<Q
/-- the same world, drawn once or not -/
def Alike2 (w wx:World):Prop:=wx=w∨wx=w.drew
theorem Alike2.at {w wx:World} (h:Alike2 w wx) {k:Nat} {x:Obj} (hk:w.heap[k]?=some x):wx.heap[k]?=some x:=by
 rcases h with rfl|rfl<;>exact hk
theorem Alike2.fr {w wx a:World} (h:Alike2 w wx) {l:List Nat} (hk:Fr l a w):Fr l a wx:=by
 rcases h with rfl|rfl
 ·exact hk
 ·exact hk.drew
theorem Alike2.rd {w wx:World} (h:Alike2 w wx) {b p:Nat} {s:ByteArray} {st:Option (List UInt8)} (hk:RdAt b s st p w):RdAt b s st p wx:=by
 rcases h with rfl|rfl<;>exact hk
theorem Alike2.val {w wx:World} (h:Alike2 w wx) {S:Nat→Prop} {d:Nat} {v:VT} {cs:Array Value} (hk:ValIn S w d v cs):ValIn S wx d v cs:=by
 rcases h with rfl|rfl
 ·exact hk
 ·exact ValIn.kept (w:=w) (w':=w.drew) (Nat.le_refl _) (fun g hg _=>⟨hg,rfl⟩) hk
theorem ival_any (b p:Nat) (s:ByteArray) (hs:s.size≤1000000) (st:Option (List UInt8)) (w:World) (h:RdAt b s st p w) :
  Calls Tryz.prog 59 #[.agg #[.pointer (some ⟨b,0,none⟩)]] w (InV b p s w (st.bind rdVal)):=by
 have hsf:∀ (a:Addr) (x:Nat) (m:Mode) (w:World),(store a (.float .f64 x) m).run Tryz.prog w=stored Tryz.prog w a (.float .f64 x) m:=fun a x m w=>run_store _ w a _ m rfl
 have h0:=h.below ((Below.refl _ _).alloc (Nat.le_refl _) (.cells #[.pointer (some ⟨b,0,none⟩)] 75));have hgB:(w.alloc (.cells #[.pointer (some ⟨b,0,none⟩)] 75)).heap[w.heap.size]?=some (.cells #[.pointer (some ⟨b,0,none⟩)] 75 (0,0)):=heap_alloc_new w _;have hF0:=(Fr.refl [b] w).alloc (.cells #[.pointer (some ⟨b,0,none⟩)] 75);have hnB:w.heap.size ∉ [b]:=by have:=h.lt;simp;omega
 have hbl:=h.lt;have HO:=zh (fun w h=>iok_any b p s st w h);have hgP:((w.alloc (.cells #[.pointer (some ⟨b,0,none⟩)] 75)).alloc (.cells #[.int .i64 0,.int .i64 0,.float .f64 0,.string ⟨#[]⟩,.slice none 0 0,.slice none 0 0] 28)).heap[w.heap.size+1]?=some (.cells #[.int .i64 0,.int .i64 0,.float .f64 0,.string ⟨#[]⟩,.slice none 0 0,.slice none 0 0] 28 (0,0)):=by
  have:=heap_alloc_new (w.alloc (.cells #[.pointer (some ⟨b,0,none⟩)] 75)) (.cells #[.int .i64 0,.int .i64 0,.float .f64 0,.string ⟨#[]⟩,.slice none 0 0,.slice none 0 0] 28);rwa [show(w.alloc (.cells #[.pointer (some ⟨b,0,none⟩)] 75)).heap.size=w.heap.size+1 by simp]at this
 have hgB':=(Lib.alloc_old (w.alloc (.cells #[.pointer (some ⟨b,0,none⟩)] 75)) (.cells #[.int .i64 0,.int .i64 0,.float .f64 0,.string ⟨#[]⟩,.slice none 0 0,.slice none 0 0] 28) w.heap.size (by simp)).trans hgB;have h0':=h0.below ((Below.refl _ _).alloc (Nat.le_refl _) (.cells #[.int .i64 0,.int .i64 0,.float .f64 0,.string ⟨#[]⟩,.slice none 0 0,.slice none 0 0] 28));have hF0':=hF0.alloc (.cells #[.int .i64 0,.int .i64 0,.float .f64 0,.string ⟨#[]⟩,.slice none 0 0,.slice none 0 0] 28);have hnP:w.heap.size+1 ∉ [b]:=by simp;omega
 clear h h0 hgB hF0;have hPw:w.heap.size+1=w.heap.size+1:=rfl;generalize hPg:w.heap.size+1=P at hgP hnP hPw;have HPg:=zh hPg;have hPw1:w.heap.size<P:=by omega
 clear hPw;cases st with
 | none =>
  go_in;go_upto_region 1 with (fail)
  clear hPg;generalize (w.alloc (.cells #[.pointer (some ⟨b,0,none⟩)] 75)).alloc (.cells #[.int .i64 0,.int .i64 0,.float .f64 0,.string ⟨#[]⟩,.slice none 0 0,.slice none 0 0] 28)=W1 at *;have x0:W1.cell? ⟨w.heap.size,0,none⟩=some (.pointer (some ⟨b,0,none⟩)):=by rw[zc hgB'];rfl
  go_wp2_with fail
  refine(HO.out _ h0').mono ?_;rintro e w2 ⟨rfl,h2,hf2⟩;have hgP2:=hf2.at hgP hnP;have A2:=hF0'.trans hf2;clear x0 hgP h0' hf2 hgB' hF0';have e0:w2.cell? ⟨P,0,none⟩=some (.int .i64 0):=by rw[zc hgP2];rfl
  have z0:w2.frozen? ⟨P,0,none⟩=false:=Lib.frozen_of_heap hgP2 0;have e1:w2.cell? ⟨P,1,none⟩=some (.int .i64 0):=by rw[zc hgP2];rfl
  have z1:w2.frozen? ⟨P,1,none⟩=false:=Lib.frozen_of_heap hgP2 1;have e2:w2.cell? ⟨P,2,none⟩=some (.float .f64 0):=by rw[zc hgP2];rfl
  have z2:w2.frozen? ⟨P,2,none⟩=false:=Lib.frozen_of_heap hgP2 2;have e3:w2.cell? ⟨P,3,none⟩=some (.string ⟨#[]⟩):=by rw[zc hgP2];rfl
  have z3:w2.frozen? ⟨P,3,none⟩=false:=Lib.frozen_of_heap hgP2 3;have e4:w2.cell? ⟨P,4,none⟩=some (.slice none 0 0):=by rw[zc hgP2];rfl
  have z4:w2.frozen? ⟨P,4,none⟩=false:=Lib.frozen_of_heap hgP2 4;have e5:w2.cell? ⟨P,5,none⟩=some (.slice none 0 0):=by rw[zc hgP2];rfl
  have z5:w2.frozen? ⟨P,5,none⟩=false:=Lib.frozen_of_heap hgP2 5;have hgF:(((((((w2).setCell ⟨P,0,none⟩ (.int .i64 0)).setCell ⟨P,1,none⟩ (.int .i64 0)).setCell ⟨P,2,none⟩ (.float .f64 0)).setCell ⟨P,3,none⟩ (.string ⟨#[]⟩)).setCell ⟨P,4,none⟩ (.slice none 0 0)).setCell ⟨P,5,none⟩ (.slice none 0 0)).heap[P]?=some (.cells #[.int .i64 0,.int .i64 0,.float .f64 0,.string ⟨#[]⟩,.slice none 0 0,.slice none 0 0] 28 (0,0)):=heap_setN (heap_setN (heap_setN (heap_setN (heap_setN (heap_setN hgP2 0 _) 1 _) 2 _) 3 _) 4 _) 5 _;have FF:=((((((Fr.refl [P] w2).setCell ⟨P,0,none⟩ (by simp) (.int .i64 0)).setCell ⟨P,1,none⟩ (by simp) (.int .i64 0)).setCell ⟨P,2,none⟩ (by simp) (.float .f64 0)).setCell ⟨P,3,none⟩ (by simp) (.string ⟨#[]⟩)).setCell ⟨P,4,none⟩ (by simp) (.slice none 0 0)).setCell ⟨P,5,none⟩ (by simp) (.slice none 0 0);go_wp2_with fail
  clear e0 z0 e1 z1 e2 z2 e3 z3 e4 z4 e5 z5;generalize ((((((w2).setCell ⟨P,0,none⟩ (.int .i64 0)).setCell ⟨P,1,none⟩ (.int .i64 0)).setCell ⟨P,2,none⟩ (.float .f64 0)).setCell ⟨P,3,none⟩ (.string ⟨#[]⟩)).setCell ⟨P,4,none⟩ (.slice none 0 0)).setCell ⟨P,5,none⟩ (.slice none 0 0)=X at *;obtain⟨y0,y1,y2,y3,y4,y5⟩:=cells6 hgF;have hrX:=RdAt.kept h2 FF (by simp;omega);have hff:=((A2.mono (m:=[b,P]) (by simp)).trans (FF.mono (m:=[b,P]) (by simp))).fewer (by omega);refine bodyPost_ret (v:=.agg #[.int .i64 0,.int .i64 0,.float .f64 0,.string ⟨#[]⟩,.slice none 0 0,.slice none 0 0]) (by simp[results,Tryz.results59,go_sem,y0,y1,y2,y3,y4,y5]) rfl ?_;exact⟨noVT,_,none,rfl,ValIn.leaf (t:=[]) (by omega) (by omega) (by unfold F64;omega) (by simp) 12,hrX,hff,rfl⟩
 | some l =>
  obtain⟨k,e0,hg0,hk0,g1,_⟩:=h0';obtain⟨he0,hl⟩:=g1 _ rfl;subst he0;have h0':RdAt b s (some l) p ((w.alloc (.cells #[.pointer (some ⟨b,0,none⟩)] 75)).alloc (.cells #[.int .i64 0,.int .i64 0,.float .f64 0,.string ⟨#[]⟩,.slice none 0 0,.slice none 0 0] 28)):=⟨k,0,hg0,hk0,(fun l h=>by cases h;exact⟨rfl,hl⟩),(fun h=>nomatch h)⟩
  have hLs:s.data.toList.length=s.size:=by simp
  have hC:=fun w=>rReadValue_any s hs k hk0 w
  rw[←hl]at hC;clear g1 hg0;cases hr:rdVal l with
  | none =>
   have HR:=zh (show(some l).bind rdVal=none from hr);rw[hr]at hC;clear hr;have HC:=zh (fun w=>(show Calls Tryz.prog 92 #[.string s,.int .i64 (k:Int)] w (fun e w'=>∃ x,x≠0∧e=.returned (.tuple #[.agg #[.int .i64 0,.int .i64 0,.float .f64 0,.string ⟨#[]⟩,.slice none 0 0,.slice none 0 0],.int .i64 0,.int .i64 x])∧Below w.heap.size w w') from hC w));have hmx:max (0:Int) (k:Int)=(k:Int):=by omega
   clear hC;go_in;go_upto_region 1 with (fail)
   clear hPg;generalize (w.alloc (.cells #[.pointer (some ⟨b,0,none⟩)] 75)).alloc (.cells #[.int .i64 0,.int .i64 0,.float .f64 0,.string ⟨#[]⟩,.slice none 0 0,.slice none 0 0] 28)=W1 at *;have x0:W1.cell? ⟨w.heap.size,0,none⟩=some (.pointer (some ⟨b,0,none⟩)):=by rw[zc hgB'];rfl
   go_wp2_with fail
   refine(HO.out _ h0').mono ?_;rintro e w2 ⟨rfl,h2,hf2⟩;have hgB2:=hf2.at hgB' hnB;have hgP2:=hf2.at hgP hnP;have A2:=hF0'.trans hf2;clear x0 hgP h0' hf2 hgB' hF0';have x0:w2.cell? ⟨w.heap.size,0,none⟩=some (.pointer (some ⟨b,0,none⟩)):=by rw[zc hgB2];rfl
   obtain⟨k2,e2,hgr,hkr,g1,g2⟩:=h2;obtain⟨he2,hl2⟩:=g1 _ rfl;subst he2;have hkk:k2=k:=by
    have h9:=congrArg List.length (hl2.symm.trans hl);rw[List.length_drop,List.length_drop,hLs]at h9;omega
   subst hkk;obtain⟨c0,c1,-⟩:=cells4 hgr;have HGR:=zh hgr;clear g1 g2 hgr hl2 hl;have hbl2:=lt_of_block HGR.out;have c0':(w2.alloc (.cells #[.int .i64 0,.int .i64 0,.float .f64 0,.string ⟨#[]⟩,.slice none 0 0,.slice none 0 0] 28)).cell? ⟨b,0,none⟩=some (.string s):=by rw[zc ((Lib.alloc_old w2 _ _ hbl2).trans HGR.out)];rfl
   have c1':(w2.alloc (.cells #[.int .i64 0,.int .i64 0,.float .f64 0,.string ⟨#[]⟩,.slice none 0 0,.slice none 0 0] 28)).cell? ⟨b,1,none⟩=some (.int .i64 (k2:Int)):=by rw[zc ((Lib.alloc_old w2 _ _ hbl2).trans HGR.out)];rfl
   have x0':(w2.alloc (.cells #[.int .i64 0,.int .i64 0,.float .f64 0,.string ⟨#[]⟩,.slice none 0 0,.slice none 0 0] 28)).cell? ⟨w.heap.size,0,none⟩=some (.pointer (some ⟨b,0,none⟩)):=by rw[zc ((Lib.alloc_old w2 _ _ (lt_of_block hgB2)).trans hgB2)];rfl
   go_upto_region 3 with (fail)
   go_cut [3,4,5] (fun qv nv ev wx=>∃ Q x,qv=.pointer (some ⟨Q,0,none⟩)∧nv=.int .i64 0∧ev=.int .i64 x∧InMid b p k2 0 s P Q w wx #[.int .i64 0,.int .i64 0,.float .f64 0,.string ⟨#[]⟩,.slice none 0 0,.slice none 0 0]∧x≠0)
   case first =>
    have hA0:Below w2.heap.size w2 (w2.alloc (.cells #[.int .i64 0,.int .i64 0,.float .f64 0,.string ⟨#[]⟩,.slice none 0 0,.slice none 0 0] 28)):=(Below.refl w2.heap.size w2).alloc (Nat.le_refl _) _;have HK:=zh (fun x (h:Below w2.heap.size w2 x)=>(show x.cell? ⟨b,0,none⟩=some (.string s)∧x.cell? ⟨b,1,none⟩=some (.int .i64 (k2:Int))∧x.cell? ⟨w.heap.size,0,none⟩=some (.pointer (some ⟨b,0,none⟩)) from
     ⟨(h.cell (p:=⟨b,0,none⟩) hbl2).trans c0,(h.cell (p:=⟨b,1,none⟩) hbl2).trans c1,(h.cell (p:=⟨w.heap.size,0,none⟩) (lt_of_block hgB2)).trans x0⟩))
    go_region_held3 (fun w'=>w'.cell? ⟨b,0,none⟩=some (.string s)∧w'.cell? ⟨b,1,none⟩=some (.int .i64 (k2:Int))∧w'.cell? ⟨w.heap.size,0,none⟩=some (.pointer (some ⟨b,0,none⟩))) (first|with_reducible exact⟨c0,c1,x0⟩|with_reducible exact⟨c0',c1',x0'⟩|with_reducible exact HK.out _ hq1|with_reducible exact HK.out _ (hq1.alloc hq1.size _)|with_reducible exact HK.out _ hA0.drew|with_reducible exact HK.out _ ((((((hq1.setCell (p:=⟨w2.heap.size,0,none⟩) (Nat.le_refl _) _).setCell (p:=⟨w2.heap.size,1,none⟩) (Nat.le_refl _) _).setCell (p:=⟨w2.heap.size,2,none⟩) (Nat.le_refl _) _).setCell (p:=⟨w2.heap.size,3,none⟩) (Nat.le_refl _) _).setCell (p:=⟨w2.heap.size,4,none⟩) (Nat.le_refl _) _).setCell (p:=⟨w2.heap.size,5,none⟩) (Nat.le_refl _) _)|go_keep) ((first|(go_at_call 92;(with_reducible refine(HC.out (w2.alloc (.cells #[.int .i64 0,.int .i64 0,.float .f64 0,.string ⟨#[]⟩,.slice none 0 0,.slice none 0 0] 28)).drew).mono ?_);rintro e u1 ⟨x,hx,rfl,hb1⟩;have hq1:=hA0.drew.trans (hb1.mono hA0.size);have hgn:=(hb1.block w2.heap.size (by simp)).trans (heap_alloc_new w2 (.cells #[.int .i64 0,.int .i64 0,.float .f64 0,.string ⟨#[]⟩,.slice none 0 0,.slice none 0 0] 28));have n0:u1.cell? ⟨w2.heap.size,0,none⟩=some (.int .i64 0):=(by rw[zc hgn];rfl);have m0:u1.frozen? ⟨w2.heap.size,0,none⟩=false:=Lib.frozen_of_heap hgn 0;have n1:u1.cell? ⟨w2.heap.size,1,none⟩=some (.int .i64 0):=(by rw[zc hgn];rfl);have m1:u1.frozen? ⟨w2.heap.size,1,none⟩=false:=Lib.frozen_of_heap hgn 1;have n2:u1.cell? ⟨w2.heap.size,2,none⟩=some (.float .f64 0):=(by rw[zc hgn];rfl);have m2:u1.frozen? ⟨w2.heap.size,2,none⟩=false:=Lib.frozen_of_heap hgn 2;have n3:u1.cell? ⟨w2.heap.size,3,none⟩=some (.string ⟨#[]⟩):=(by rw[zc hgn];rfl);have m3:u1.frozen? ⟨w2.heap.size,3,none⟩=false:=Lib.frozen_of_heap hgn 3;have n4:u1.cell? ⟨w2.heap.size,4,none⟩=some (.slice none 0 0):=(by rw[zc hgn];rfl);have m4:u1.frozen? ⟨w2.heap.size,4,none⟩=false:=Lib.frozen_of_heap hgn 4;have n5:u1.cell? ⟨w2.heap.size,5,none⟩=some (.slice none 0 0):=(by rw[zc hgn];rfl);have m5:u1.frozen? ⟨w2.heap.size,5,none⟩=false:=Lib.frozen_of_heap hgn 5)|(go_at_call 92;(with_reducible refine(HC.out w2.drew).mono ?_);rintro e u1 ⟨x,hx,rfl,hb1⟩;have hq1:=undrew hb1)))
    all_goals
     first
     | (have tok:=hgn
        have hb2:Below w2.heap.size w2 u1:=hq1;have hgrU:=(hb2.block _ (lt_of_block HGR.out)).trans HGR.out;have hgBU:=(hb2.block _ (lt_of_block hgB2)).trans hgB2;have hgPU:=(hb2.block _ (lt_of_block hgP2)).trans hgP2;have FS:=((((((Fr.refl [w2.heap.size] u1).setCell ⟨w2.heap.size,0,none⟩ (by simp) (.int .i64 0)).setCell ⟨w2.heap.size,1,none⟩ (by simp) (.int .i64 0)).setCell ⟨w2.heap.size,2,none⟩ (by simp) (.float .f64 0)).setCell ⟨w2.heap.size,3,none⟩ (by simp) (.string ⟨#[]⟩)).setCell ⟨w2.heap.size,4,none⟩ (by simp) (.slice none 0 0)).setCell ⟨w2.heap.size,5,none⟩ (by simp) (.slice none 0 0);have hgQ3:(((((((u1).setCell ⟨w2.heap.size,0,none⟩ (.int .i64 0)).setCell ⟨w2.heap.size,1,none⟩ (.int .i64 0)).setCell ⟨w2.heap.size,2,none⟩ (.float .f64 0)).setCell ⟨w2.heap.size,3,none⟩ (.string ⟨#[]⟩)).setCell ⟨w2.heap.size,4,none⟩ (.slice none 0 0)).setCell ⟨w2.heap.size,5,none⟩ (.slice none 0 0)).heap[w2.heap.size]?=some (.cells #[.int .i64 0,.int .i64 0,.float .f64 0,.string ⟨#[]⟩,.slice none 0 0,.slice none 0 0] 28 (0,0)):=heap_setN (heap_setN (heap_setN (heap_setN (heap_setN (heap_setN hgn 0 _) 1 _) 2 _) 3 _) 4 _) 5 _;have A3:=((A2.trans (Fr.of_below hb2)).mono (m:=[b,w2.heap.size]) (by simp)).trans (FS.mono (m:=[b,w2.heap.size]) (by simp));replace A3:=A3.fewer (by have:=A2.size;omega);have hgr3:=FS.at hgrU (by simp;omega);have hQ1:P<w2.heap.size:=lt_of_block hgP2;have hQ2:b<w2.heap.size:=hbl2;have hQ3:w.heap.size<w2.heap.size:=lt_of_block hgB2;have hgB3:=FS.at hgBU (by simp;omega);have hgP3:=FS.at hgPU (by simp;omega);clear n0 m0 n1 m1 n2 m2 n3 m3 n4 m4 n5 m5 hgn tok hb1 hb2 hq1 FS hgrU hgBU hgPU;go_wp2_with fail
        go_meet;exact⟨_,x,rfl,rfl,rfl,⟨hgQ3,hgr3,hgB3,hgP3,A3,hQ1,hQ2,hQ3⟩,hx⟩)
     | (replace hb1:=hq1
        have hgrU:=(hb1.block _ (lt_of_block HGR.out)).trans HGR.out;have hgBU:=(hb1.block _ (lt_of_block hgB2)).trans hgB2;have hgPU:=(hb1.block _ (lt_of_block hgP2)).trans hgP2;have A3:=(A2.trans (Fr.of_below hb1)).alloc (.cells #[.int .i64 0,.int .i64 0,.float .f64 0,.string ⟨#[]⟩,.slice none 0 0,.slice none 0 0] 28);have hgr3:=(Lib.alloc_old u1 (.cells #[.int .i64 0,.int .i64 0,.float .f64 0,.string ⟨#[]⟩,.slice none 0 0,.slice none 0 0] 28) b (lt_of_block hgrU)).trans hgrU;have hgB3:=(Lib.alloc_old u1 (.cells #[.int .i64 0,.int .i64 0,.float .f64 0,.string ⟨#[]⟩,.slice none 0 0,.slice none 0 0] 28) _ (lt_of_block hgBU)).trans hgBU;have hgP3:=(Lib.alloc_old u1 (.cells #[.int .i64 0,.int .i64 0,.float .f64 0,.string ⟨#[]⟩,.slice none 0 0,.slice none 0 0] 28) _ (lt_of_block hgPU)).trans hgPU;have hgQ3:=heap_alloc_new u1 (.cells #[.int .i64 0,.int .i64 0,.float .f64 0,.string ⟨#[]⟩,.slice none 0 0,.slice none 0 0] 28);have hQ1:=lt_of_block hgPU;have hQ2:=lt_of_block hgrU;have hQ3:=lt_of_block hgBU;clear hb1 hq1 hgrU hgBU hgPU;go_wp2_with fail
        go_meet;exact⟨_,x,rfl,rfl,rfl,⟨hgQ3,hgr3,hgB3,hgP3,A3,hQ1,hQ2,hQ3⟩,hx⟩)
   case rest =>
    obtain⟨Q,x,rfl,rfl,rfl,⟨hgQ3,hgr3,hgB3,hgP3,A3,hQ1,hQ2,hQ3⟩,hx⟩:=hcut;clear A2 c0 c1 x0 c0' c1' x0' hgB2 hgP2;generalize wc=w4 at *;have c2:w4.cell? ⟨b,2,none⟩=some (.int .i64 0):=by rw[zc hgr3];rfl
    have z2:w4.frozen? ⟨b,2,none⟩=false:=Lib.frozen_of_heap hgr3 2;have x0:w4.cell? ⟨w.heap.size,0,none⟩=some (.pointer (some ⟨b,0,none⟩)):=by rw[zc hgB3];rfl
    have F5:=(Fr.refl [b] w4).setCell ⟨b,2,none⟩ (by simp) (.int .i64 x);have hgr5:(w4.setCell ⟨b,2,none⟩ (.int .i64 x)).heap[b]?=some (.cells #[.string s,.int .i64 (k2:Int),.int .i64 x,.int .i64 (p:Int)] 77 (0,0)):=heap_setN hgr3 2 _;have hgB5:=F5.at hgB3 hnB;have hgP5:=F5.at hgP3 hnP;have hgQ5:=F5.at hgQ3 (by simp;omega);have A5:=A3.trans F5;go_upto_region 5 with (fail)
    clear c2 z2 x0 hgr3 hgB3 hgP3 hgQ3 A3 F5 ;generalize w4.setCell ⟨b,2,none⟩ (.int .i64 x)=w5 at *;have c1:w5.cell? ⟨b,1,none⟩=some (.int .i64 (k2:Int)):=by rw[zc hgr5];rfl
    have z1:w5.frozen? ⟨b,1,none⟩=false:=Lib.frozen_of_heap hgr5 1;have x0:w5.cell? ⟨w.heap.size,0,none⟩=some (.pointer (some ⟨b,0,none⟩)):=by rw[zc hgB5];rfl
    have F6:=(Fr.refl [b] w5).setCell ⟨b,1,none⟩ (by simp) (.int .i64 (k2:Int));have hgr6:(w5.setCell ⟨b,1,none⟩ (.int .i64 (k2:Int))).heap[b]?=some (.cells #[.string s,.int .i64 (k2:Int),.int .i64 x,.int .i64 (p:Int)] 77 (0,0)):=heap_setN hgr5 1 _;have hgP6:=F6.at hgP5 hnP;have hgQ6:=F6.at hgQ5 (by simp;omega);have A6:=A5.trans F6;go_cut [] (fun wx=>Alike2 (w5.setCell ⟨b,1,none⟩ (.int .i64 (k2:Int))) wx)
    case first =>
     go_region_law (fail)
     all_goals
      go_wp2_with fail
      go_meet;first|exact .inl rfl|exact .inr rfl
    case rest =>
     have hw6:=hcut;go_upto_region 6 with (fail)
     clear c1 z1 x0 hgr5 hgB5 hgP5 hgQ5 A5 F6 hcut ;generalize w5.setCell ⟨b,1,none⟩ (.int .i64 (k2:Int))=w6 at *;have hr6:RdAt b s none p w6:=⟨k2,x,hgr6,hkr,(fun _ h=>nomatch h),fun _=>hx⟩;have hgP7:wc.heap[P]?=_:=hw6.at hgP6;have hgQ7:wc.heap[Q]?=_:=hw6.at hgQ6;have A7:Fr [b] w wc:=hw6.fr A6;replace hr6:=hw6.rd hr6;clear hgr6 hgP6 hgQ6 A6 ;clear hw6;generalize wc=w7 at *;obtain⟨q0,q1,q2,q3,q4,q5⟩:=cells6 hgQ7;have e0:w7.cell? ⟨P,0,none⟩=some (.int .i64 0):=by rw[zc hgP7];rfl
     have z0:w7.frozen? ⟨P,0,none⟩=false:=Lib.frozen_of_heap hgP7 0;have e1:w7.cell? ⟨P,1,none⟩=some (.int .i64 0):=by rw[zc hgP7];rfl
     have z1:w7.frozen? ⟨P,1,none⟩=false:=Lib.frozen_of_heap hgP7 1;have e2:w7.cell? ⟨P,2,none⟩=some (.float .f64 0):=by rw[zc hgP7];rfl
     have z2:w7.frozen? ⟨P,2,none⟩=false:=Lib.frozen_of_heap hgP7 2;have e3:w7.cell? ⟨P,3,none⟩=some (.string ⟨#[]⟩):=by rw[zc hgP7];rfl
     have z3:w7.frozen? ⟨P,3,none⟩=false:=Lib.frozen_of_heap hgP7 3;have e4:w7.cell? ⟨P,4,none⟩=some (.slice none 0 0):=by rw[zc hgP7];rfl
     have z4:w7.frozen? ⟨P,4,none⟩=false:=Lib.frozen_of_heap hgP7 4;have e5:w7.cell? ⟨P,5,none⟩=some (.slice none 0 0):=by rw[zc hgP7];rfl
     have z5:w7.frozen? ⟨P,5,none⟩=false:=Lib.frozen_of_heap hgP7 5;have hgF:(((((((w7).setCell ⟨P,0,none⟩ (.int .i64 0)).setCell ⟨P,1,none⟩ (.int .i64 0)).setCell ⟨P,2,none⟩ (.float .f64 0)).setCell ⟨P,3,none⟩ (.string ⟨#[]⟩)).setCell ⟨P,4,none⟩ (.slice none 0 0)).setCell ⟨P,5,none⟩ (.slice none 0 0)).heap[P]?=some (.cells #[.int .i64 0,.int .i64 0,.float .f64 0,.string ⟨#[]⟩,.slice none 0 0,.slice none 0 0] 28 (0,0)):=heap_setN (heap_setN (heap_setN (heap_setN (heap_setN (heap_setN hgP7 0 _) 1 _) 2 _) 3 _) 4 _) 5 _;have FF:=((((((Fr.refl [P] w7).setCell ⟨P,0,none⟩ (by simp) (.int .i64 0)).setCell ⟨P,1,none⟩ (by simp) (.int .i64 0)).setCell ⟨P,2,none⟩ (by simp) (.float .f64 0)).setCell ⟨P,3,none⟩ (by simp) (.string ⟨#[]⟩)).setCell ⟨P,4,none⟩ (by simp) (.slice none 0 0)).setCell ⟨P,5,none⟩ (by simp) (.slice none 0 0);go_wp2_with fail
     clear e0 z0 e1 z1 e2 z2 e3 z3 e4 z4 e5 z5;generalize ((((((w7).setCell ⟨P,0,none⟩ (.int .i64 0)).setCell ⟨P,1,none⟩ (.int .i64 0)).setCell ⟨P,2,none⟩ (.float .f64 0)).setCell ⟨P,3,none⟩ (.string ⟨#[]⟩)).setCell ⟨P,4,none⟩ (.slice none 0 0)).setCell ⟨P,5,none⟩ (.slice none 0 0)=X at *;obtain⟨y0,y1,y2,y3,y4,y5⟩:=cells6 hgF;have hrX:=RdAt.kept hr6 FF (by simp;omega);have hff:=((A7.mono (m:=[b,P]) (by simp)).trans (FF.mono (m:=[b,P]) (by simp))).fewer (by omega);refine bodyPost_ret (v:=.agg #[.int .i64 0,.int .i64 0,.float .f64 0,.string ⟨#[]⟩,.slice none 0 0,.slice none 0 0]) (by simp[results,Tryz.results59,go_sem,y0,y1,y2,y3,y4,y5]) rfl ?_;exact⟨noVT,_,none,rfl,ValIn.leaf (t:=[]) (by omega) (by omega) (by unfold F64;omega) (by simp) 12,hrX,hff,by rw[HR.out];rfl⟩
  | some r =>
   obtain⟨v,l2⟩:=r;have HR:=zh (show(some l).bind rdVal=some (v,l2) from hr);rw[hr]at hC;have hdec:=(rdVal_dec hr).1;rw[hl]at hdec;obtain⟨hs1,hs2⟩:=suf_of hdec (by omega);rw[hLs]at hs1 hs2;obtain⟨n,hn⟩:∃ n,n=s.size - l2.length:=⟨_,rfl⟩;have hC:∀ w,Calls Tryz.prog 92 #[.string s,.int .i64 (k:Int)] w (fun e w'=>∃ cs,e=.returned (.tuple #[.agg cs,.int .i64 (n:Int),.int .i64 0])∧ValIn (fun g=>w.heap.size≤g) w' 13 v cs∧Below w.heap.size w w'):=by
    intro w;rw[hn];exact hC w
   rw[←hn]at hs1;have HL2:=zh hs1;have hnl:n≤s.size:=by omega
   have hkn:k≤n:=by omega
   clear hr hdec hs1 hs2 hn;have HC:=zh (fun w=>(show Calls Tryz.prog 92 #[.string s,.int .i64 (k:Int)] w (fun e w'=>∃ cs,e=.returned (.tuple #[.agg cs,.int .i64 (n:Int),.int .i64 0])∧ValIn (fun g=>w.heap.size≤g) w' 13 v cs∧Below w.heap.size w w') from hC w));have hmx:max (n:Int) (k:Int)=(n:Int):=by omega
   clear hC;go_in;go_upto_region 1 with (fail)
   clear hPg;generalize (w.alloc (.cells #[.pointer (some ⟨b,0,none⟩)] 75)).alloc (.cells #[.int .i64 0,.int .i64 0,.float .f64 0,.string ⟨#[]⟩,.slice none 0 0,.slice none 0 0] 28)=W1 at *;have x0:W1.cell? ⟨w.heap.size,0,none⟩=some (.pointer (some ⟨b,0,none⟩)):=by rw[zc hgB'];rfl
   go_wp2_with fail
   refine(HO.out _ h0').mono ?_;rintro e w2 ⟨rfl,h2,hf2⟩;have hgB2:=hf2.at hgB' hnB;have hgP2:=hf2.at hgP hnP;have A2:=hF0'.trans hf2;clear x0 hgP h0' hf2 hgB' hF0';have x0:w2.cell? ⟨w.heap.size,0,none⟩=some (.pointer (some ⟨b,0,none⟩)):=by rw[zc hgB2];rfl
   obtain⟨k2,e2,hgr,hkr,g1,g2⟩:=h2;obtain⟨he2,hl2⟩:=g1 _ rfl;subst he2;have hkk:k2=k:=by
    have h9:=congrArg List.length (hl2.symm.trans hl);rw[List.length_drop,List.length_drop,hLs]at h9;omega
   subst hkk;obtain⟨c0,c1,-⟩:=cells4 hgr;have HGR:=zh hgr;clear g1 g2 hgr hl2 hl;have hbl2:=lt_of_block HGR.out;have c0':(w2.alloc (.cells #[.int .i64 0,.int .i64 0,.float .f64 0,.string ⟨#[]⟩,.slice none 0 0,.slice none 0 0] 28)).cell? ⟨b,0,none⟩=some (.string s):=by rw[zc ((Lib.alloc_old w2 _ _ hbl2).trans HGR.out)];rfl
   have c1':(w2.alloc (.cells #[.int .i64 0,.int .i64 0,.float .f64 0,.string ⟨#[]⟩,.slice none 0 0,.slice none 0 0] 28)).cell? ⟨b,1,none⟩=some (.int .i64 (k2:Int)):=by rw[zc ((Lib.alloc_old w2 _ _ hbl2).trans HGR.out)];rfl
   have x0':(w2.alloc (.cells #[.int .i64 0,.int .i64 0,.float .f64 0,.string ⟨#[]⟩,.slice none 0 0,.slice none 0 0] 28)).cell? ⟨w.heap.size,0,none⟩=some (.pointer (some ⟨b,0,none⟩)):=by rw[zc ((Lib.alloc_old w2 _ _ (lt_of_block hgB2)).trans hgB2)];rfl
   go_upto_region 3 with (fail)
   go_cut [3,4,5] (fun qv nv ev wx=>∃ Q na nl nc ia il ic,qv=.pointer (some ⟨Q,0,none⟩)∧nv=.int .i64 (n:Int)∧ev=.int .i64 0∧InMid b p k2 0 s P Q w wx #[.int .i64 v.kind,.int .i64 v.num,.float .f64 v.flt,.string ⟨v.str.toArray⟩,.slice na nl nc,.slice ia il ic]∧ValIn (fun g=>P<g) wx 13 v #[.int .i64 v.kind,.int .i64 v.num,.float .f64 v.flt,.string ⟨v.str.toArray⟩,.slice na nl nc,.slice ia il ic])
   case first =>
    have hA0:Below w2.heap.size w2 (w2.alloc (.cells #[.int .i64 0,.int .i64 0,.float .f64 0,.string ⟨#[]⟩,.slice none 0 0,.slice none 0 0] 28)):=(Below.refl w2.heap.size w2).alloc (Nat.le_refl _) _;have HK:=zh (fun x (h:Below w2.heap.size w2 x)=>(show x.cell? ⟨b,0,none⟩=some (.string s)∧x.cell? ⟨b,1,none⟩=some (.int .i64 (k2:Int))∧x.cell? ⟨w.heap.size,0,none⟩=some (.pointer (some ⟨b,0,none⟩)) from
     ⟨(h.cell (p:=⟨b,0,none⟩) hbl2).trans c0,(h.cell (p:=⟨b,1,none⟩) hbl2).trans c1,(h.cell (p:=⟨w.heap.size,0,none⟩) (lt_of_block hgB2)).trans x0⟩))
    go_region_held3 (fun w'=>w'.cell? ⟨b,0,none⟩=some (.string s)∧w'.cell? ⟨b,1,none⟩=some (.int .i64 (k2:Int))∧w'.cell? ⟨w.heap.size,0,none⟩=some (.pointer (some ⟨b,0,none⟩))) (first|with_reducible exact⟨c0,c1,x0⟩|with_reducible exact⟨c0',c1',x0'⟩|with_reducible exact HK.out _ hq1|with_reducible exact HK.out _ (hq1.alloc hq1.size _)|with_reducible exact HK.out _ hA0.drew|with_reducible exact HK.out _ ((((((hq1.setCell (p:=⟨w2.heap.size,0,none⟩) (Nat.le_refl _) _).setCell (p:=⟨w2.heap.size,1,none⟩) (Nat.le_refl _) _).setCell (p:=⟨w2.heap.size,2,none⟩) (Nat.le_refl _) _).setCell (p:=⟨w2.heap.size,3,none⟩) (Nat.le_refl _) _).setCell (p:=⟨w2.heap.size,4,none⟩) (Nat.le_refl _) _).setCell (p:=⟨w2.heap.size,5,none⟩) (Nat.le_refl _) _)|go_keep) ((first|(go_at_call 92;(with_reducible refine(HC.out (w2.alloc (.cells #[.int .i64 0,.int .i64 0,.float .f64 0,.string ⟨#[]⟩,.slice none 0 0,.slice none 0 0] 28)).drew).mono ?_);rintro e u1 ⟨cs,rfl,V1,hb1⟩;obtain⟨na,nl,nc,ia,il,ic,rfl⟩:=V1.six;have hq1:=hA0.drew.trans (hb1.mono hA0.size);have hgn:=(hb1.block w2.heap.size (by simp)).trans (heap_alloc_new w2 (.cells #[.int .i64 0,.int .i64 0,.float .f64 0,.string ⟨#[]⟩,.slice none 0 0,.slice none 0 0] 28));have n0:u1.cell? ⟨w2.heap.size,0,none⟩=some (.int .i64 0):=(by rw[zc hgn];rfl);have m0:u1.frozen? ⟨w2.heap.size,0,none⟩=false:=Lib.frozen_of_heap hgn 0;have n1:u1.cell? ⟨w2.heap.size,1,none⟩=some (.int .i64 0):=(by rw[zc hgn];rfl);have m1:u1.frozen? ⟨w2.heap.size,1,none⟩=false:=Lib.frozen_of_heap hgn 1;have n2:u1.cell? ⟨w2.heap.size,2,none⟩=some (.float .f64 0):=(by rw[zc hgn];rfl);have m2:u1.frozen? ⟨w2.heap.size,2,none⟩=false:=Lib.frozen_of_heap hgn 2;have n3:u1.cell? ⟨w2.heap.size,3,none⟩=some (.string ⟨#[]⟩):=(by rw[zc hgn];rfl);have m3:u1.frozen? ⟨w2.heap.size,3,none⟩=false:=Lib.frozen_of_heap hgn 3;have n4:u1.cell? ⟨w2.heap.size,4,none⟩=some (.slice none 0 0):=(by rw[zc hgn];rfl);have m4:u1.frozen? ⟨w2.heap.size,4,none⟩=false:=Lib.frozen_of_heap hgn 4;have n5:u1.cell? ⟨w2.heap.size,5,none⟩=some (.slice none 0 0):=(by rw[zc hgn];rfl);have m5:u1.frozen? ⟨w2.heap.size,5,none⟩=false:=Lib.frozen_of_heap hgn 5)|(go_at_call 92;(with_reducible refine(HC.out w2.drew).mono ?_);rintro e u1 ⟨cs,rfl,V1,hb1⟩;obtain⟨na,nl,nc,ia,il,ic,rfl⟩:=V1.six;have hq1:=undrew hb1)))
    all_goals
     first
     | (have tok:=hgn
        have hb2:Below w2.heap.size w2 u1:=hq1;have hgrU:=(hb2.block _ (lt_of_block HGR.out)).trans HGR.out;have hgBU:=(hb2.block _ (lt_of_block hgB2)).trans hgB2;have hgPU:=(hb2.block _ (lt_of_block hgP2)).trans hgP2;have FS:=((((((Fr.refl [w2.heap.size] u1).setCell ⟨w2.heap.size,0,none⟩ (by simp) (.int .i64 v.kind)).setCell ⟨w2.heap.size,1,none⟩ (by simp) (.int .i64 v.num)).setCell ⟨w2.heap.size,2,none⟩ (by simp) (.float .f64 v.flt)).setCell ⟨w2.heap.size,3,none⟩ (by simp) (.string ⟨v.str.toArray⟩)).setCell ⟨w2.heap.size,4,none⟩ (by simp) (.slice na nl nc)).setCell ⟨w2.heap.size,5,none⟩ (by simp) (.slice ia il ic);have hgQ3:(((((((u1).setCell ⟨w2.heap.size,0,none⟩ (.int .i64 v.kind)).setCell ⟨w2.heap.size,1,none⟩ (.int .i64 v.num)).setCell ⟨w2.heap.size,2,none⟩ (.float .f64 v.flt)).setCell ⟨w2.heap.size,3,none⟩ (.string ⟨v.str.toArray⟩)).setCell ⟨w2.heap.size,4,none⟩ (.slice na nl nc)).setCell ⟨w2.heap.size,5,none⟩ (.slice ia il ic)).heap[w2.heap.size]?=some (.cells #[.int .i64 v.kind,.int .i64 v.num,.float .f64 v.flt,.string ⟨v.str.toArray⟩,.slice na nl nc,.slice ia il ic] 28 (0,0)):=heap_setN (heap_setN (heap_setN (heap_setN (heap_setN (heap_setN hgn 0 _) 1 _) 2 _) 3 _) 4 _) 5 _;have A3:=((A2.trans (Fr.of_below hb2)).mono (m:=[b,w2.heap.size]) (by simp)).trans (FS.mono (m:=[b,w2.heap.size]) (by simp));replace A3:=A3.fewer (by have:=A2.size;omega);have hgr3:=FS.at hgrU (by simp;omega);have hQ1:P<w2.heap.size:=lt_of_block hgP2;have hQ2:b<w2.heap.size:=hbl2;have hQ3:w.heap.size<w2.heap.size:=lt_of_block hgB2;have hgB3:=FS.at hgBU (by simp;omega);have hgP3:=FS.at hgPU (by simp;omega);have hge:∀ g,(w2.alloc (.cells #[.int .i64 0,.int .i64 0,.float .f64 0,.string ⟨#[]⟩,.slice none 0 0,.slice none 0 0] 28)).drew.heap.size≤g→w2.heap.size+1≤g:=fun g h=>(by simpa using h)
        have V3:=V1.kept (T:=fun g=>P<g) FS.size (fun g hg hl=>⟨Nat.lt_of_lt_of_le hQ1 (Nat.le_of_succ_le (hge g hg)),FS.block g hl (not_one (hge g hg))⟩);clear n0 m0 n1 m1 n2 m2 n3 m3 n4 m4 n5 m5 hgn tok hb1 hb2 hq1 FS hgrU hgBU hgPU;go_wp2_with fail
        go_meet;exact⟨_,na,nl,nc,ia,il,ic,rfl,rfl,rfl,⟨hgQ3,hgr3,hgB3,hgP3,A3,hQ1,hQ2,hQ3⟩,V3⟩)
     | (replace hb1:=hq1
        have hgrU:=(hb1.block _ (lt_of_block HGR.out)).trans HGR.out;have hgBU:=(hb1.block _ (lt_of_block hgB2)).trans hgB2;have hgPU:=(hb1.block _ (lt_of_block hgP2)).trans hgP2;have A3:=(A2.trans (Fr.of_below hb1)).alloc (.cells #[.int .i64 v.kind,.int .i64 v.num,.float .f64 v.flt,.string ⟨v.str.toArray⟩,.slice na nl nc,.slice ia il ic] 28);have hgr3:=(Lib.alloc_old u1 (.cells #[.int .i64 v.kind,.int .i64 v.num,.float .f64 v.flt,.string ⟨v.str.toArray⟩,.slice na nl nc,.slice ia il ic] 28) b (lt_of_block hgrU)).trans hgrU;have hgB3:=(Lib.alloc_old u1 (.cells #[.int .i64 v.kind,.int .i64 v.num,.float .f64 v.flt,.string ⟨v.str.toArray⟩,.slice na nl nc,.slice ia il ic] 28) _ (lt_of_block hgBU)).trans hgBU;have hgP3:=(Lib.alloc_old u1 (.cells #[.int .i64 v.kind,.int .i64 v.num,.float .f64 v.flt,.string ⟨v.str.toArray⟩,.slice na nl nc,.slice ia il ic] 28) _ (lt_of_block hgPU)).trans hgPU;have hgQ3:=heap_alloc_new u1 (.cells #[.int .i64 v.kind,.int .i64 v.num,.float .f64 v.flt,.string ⟨v.str.toArray⟩,.slice na nl nc,.slice ia il ic] 28);have hQ1:=lt_of_block hgPU;have hQ2:=lt_of_block hgrU;have hQ3:=lt_of_block hgBU;have V3:=V1.grown (T:=fun g=>P<g) (World.grownBy_alloc u1 (.cells #[.int .i64 v.kind,.int .i64 v.num,.float .f64 v.flt,.string ⟨v.str.toArray⟩,.slice na nl nc,.slice ia il ic] 28) none) (fun g hg _=>⟨Nat.lt_of_lt_of_le (lt_of_block hgP2) hg,(by simp)⟩);clear hb1 hq1 hgrU hgBU hgPU;go_wp2_with fail
        go_meet;exact⟨_,na,nl,nc,ia,il,ic,rfl,rfl,rfl,⟨hgQ3,hgr3,hgB3,hgP3,A3,hQ1,hQ2,hQ3⟩,V3⟩)
   case rest =>
    obtain⟨Q,na,nl,nc,ia,il,ic,rfl,rfl,rfl,⟨hgQ3,hgr3,hgB3,hgP3,A3,hQ1,hQ2,hQ3⟩,V3⟩:=hcut;clear A2 c0 c1 x0 c0' c1' x0' hgB2 hgP2;generalize wc=w4 at *;have c2:w4.cell? ⟨b,2,none⟩=some (.int .i64 0):=by rw[zc hgr3];rfl
    have z2:w4.frozen? ⟨b,2,none⟩=false:=Lib.frozen_of_heap hgr3 2;have x0:w4.cell? ⟨w.heap.size,0,none⟩=some (.pointer (some ⟨b,0,none⟩)):=by rw[zc hgB3];rfl
    have F5:=(Fr.refl [b] w4).setCell ⟨b,2,none⟩ (by simp) (.int .i64 0);have hgr5:(w4.setCell ⟨b,2,none⟩ (.int .i64 0)).heap[b]?=some (.cells #[.string s,.int .i64 (k2:Int),.int .i64 0,.int .i64 (p:Int)] 77 (0,0)):=heap_setN hgr3 2 _;have hgB5:=F5.at hgB3 hnB;have hgP5:=F5.at hgP3 hnP;have hgQ5:=F5.at hgQ3 (by simp;omega);have A5:=A3.trans F5;have V5:=V3.fr F5 (fun g hg=>by simp at hg;subst hg;omega);go_upto_region 5 with (fail)
    clear c2 z2 x0 hgr3 hgB3 hgP3 hgQ3 A3 F5 V3;generalize w4.setCell ⟨b,2,none⟩ (.int .i64 0)=w5 at *;have c1:w5.cell? ⟨b,1,none⟩=some (.int .i64 (k2:Int)):=by rw[zc hgr5];rfl
    have z1:w5.frozen? ⟨b,1,none⟩=false:=Lib.frozen_of_heap hgr5 1;have x0:w5.cell? ⟨w.heap.size,0,none⟩=some (.pointer (some ⟨b,0,none⟩)):=by rw[zc hgB5];rfl
    have F6:=(Fr.refl [b] w5).setCell ⟨b,1,none⟩ (by simp) (.int .i64 (n:Int));have hgr6:(w5.setCell ⟨b,1,none⟩ (.int .i64 (n:Int))).heap[b]?=some (.cells #[.string s,.int .i64 (n:Int),.int .i64 0,.int .i64 (p:Int)] 77 (0,0)):=heap_setN hgr5 1 _;have hgP6:=F6.at hgP5 hnP;have hgQ6:=F6.at hgQ5 (by simp;omega);have A6:=A5.trans F6;have V6:=V5.fr F6 (fun g hg=>by simp at hg;subst hg;omega);go_cut [] (fun wx=>Alike2 (w5.setCell ⟨b,1,none⟩ (.int .i64 (n:Int))) wx)
    case first =>
     go_region_law (fail)
     all_goals
      go_wp2_with fail
      go_meet;first|exact .inl rfl|exact .inr rfl
    case rest =>
     have hw6:=hcut;go_upto_region 6 with (fail)
     clear c1 z1 x0 hgr5 hgB5 hgP5 hgQ5 A5 F6 hcut V5;generalize w5.setCell ⟨b,1,none⟩ (.int .i64 (n:Int))=w6 at *;have hr6:RdAt b s (some l2) p w6:=⟨n,0,hgr6,hnl,(fun l h=>by cases h;exact⟨rfl,HL2.out⟩),(fun h=>nomatch h)⟩
     have hgP7:wc.heap[P]?=_:=hw6.at hgP6;have hgQ7:wc.heap[Q]?=_:=hw6.at hgQ6;have A7:Fr [b] w wc:=hw6.fr A6;replace hr6:=hw6.rd hr6;have V7:ValIn (fun g=>P<g) wc 13 v _:=hw6.val V6;clear hgr6 hgP6 hgQ6 A6 V6;clear hw6;generalize wc=w7 at *;obtain⟨q0,q1,q2,q3,q4,q5⟩:=cells6 hgQ7;have e0:w7.cell? ⟨P,0,none⟩=some (.int .i64 0):=by rw[zc hgP7];rfl
     have z0:w7.frozen? ⟨P,0,none⟩=false:=Lib.frozen_of_heap hgP7 0;have e1:w7.cell? ⟨P,1,none⟩=some (.int .i64 0):=by rw[zc hgP7];rfl
     have z1:w7.frozen? ⟨P,1,none⟩=false:=Lib.frozen_of_heap hgP7 1;have e2:w7.cell? ⟨P,2,none⟩=some (.float .f64 0):=by rw[zc hgP7];rfl
     have z2:w7.frozen? ⟨P,2,none⟩=false:=Lib.frozen_of_heap hgP7 2;have e3:w7.cell? ⟨P,3,none⟩=some (.string ⟨#[]⟩):=by rw[zc hgP7];rfl
     have z3:w7.frozen? ⟨P,3,none⟩=false:=Lib.frozen_of_heap hgP7 3;have e4:w7.cell? ⟨P,4,none⟩=some (.slice none 0 0):=by rw[zc hgP7];rfl
     have z4:w7.frozen? ⟨P,4,none⟩=false:=Lib.frozen_of_heap hgP7 4;have e5:w7.cell? ⟨P,5,none⟩=some (.slice none 0 0):=by rw[zc hgP7];rfl
     have z5:w7.frozen? ⟨P,5,none⟩=false:=Lib.frozen_of_heap hgP7 5;have hgF:(((((((w7).setCell ⟨P,0,none⟩ (.int .i64 v.kind)).setCell ⟨P,1,none⟩ (.int .i64 v.num)).setCell ⟨P,2,none⟩ (.float .f64 v.flt)).setCell ⟨P,3,none⟩ (.string ⟨v.str.toArray⟩)).setCell ⟨P,4,none⟩ (.slice na nl nc)).setCell ⟨P,5,none⟩ (.slice ia il ic)).heap[P]?=some (.cells #[.int .i64 v.kind,.int .i64 v.num,.float .f64 v.flt,.string ⟨v.str.toArray⟩,.slice na nl nc,.slice ia il ic] 28 (0,0)):=heap_setN (heap_setN (heap_setN (heap_setN (heap_setN (heap_setN hgP7 0 _) 1 _) 2 _) 3 _) 4 _) 5 _;have FF:=((((((Fr.refl [P] w7).setCell ⟨P,0,none⟩ (by simp) (.int .i64 v.kind)).setCell ⟨P,1,none⟩ (by simp) (.int .i64 v.num)).setCell ⟨P,2,none⟩ (by simp) (.float .f64 v.flt)).setCell ⟨P,3,none⟩ (by simp) (.string ⟨v.str.toArray⟩)).setCell ⟨P,4,none⟩ (by simp) (.slice na nl nc)).setCell ⟨P,5,none⟩ (by simp) (.slice ia il ic);go_wp2_with fail
     clear e0 z0 e1 z1 e2 z2 e3 z3 e4 z4 e5 z5;generalize ((((((w7).setCell ⟨P,0,none⟩ (.int .i64 v.kind)).setCell ⟨P,1,none⟩ (.int .i64 v.num)).setCell ⟨P,2,none⟩ (.float .f64 v.flt)).setCell ⟨P,3,none⟩ (.string ⟨v.str.toArray⟩)).setCell ⟨P,4,none⟩ (.slice na nl nc)).setCell ⟨P,5,none⟩ (.slice ia il ic)=X at *;obtain⟨y0,y1,y2,y3,y4,y5⟩:=cells6 hgF;have hrX:=RdAt.kept hr6 FF (by simp;omega);have hff:=((A7.mono (m:=[b,P]) (by simp)).trans (FF.mono (m:=[b,P]) (by simp))).fewer (by omega);refine bodyPost_ret (v:=.agg #[.int .i64 v.kind,.int .i64 v.num,.float .f64 v.flt,.string ⟨v.str.toArray⟩,.slice na nl nc,.slice ia il ic]) (by simp[results,Tryz.results59,go_sem,y0,y1,y2,y3,y4,y5]) rfl ?_;exact⟨v,_,_,rfl,V7.kept FF.size (fun g hg hl=>⟨by have h9:P<g:=hg;omega,FF.block g hl (by have h9:P<g:=hg;simp;omega)⟩),hrX,hff,by rw[HR.out];exact⟨rfl,rfl⟩⟩
end
section
open Go.RowKit
theorem isO_some0 {st st1:Option (List UInt8)} (h:IsO (st.bind byteR) 0 st1):IsO (st.bind someR) noVT st1:=by
 cases st with
 | none=>exact h
 | some l =>
  cases l with
  | nil=>exact h
  | cons c t =>
   obtain⟨hc,rfl⟩:=h;show IsO (if c.toNat=0 then some (noVT,t) else if c.toNat=1 then rdVal t else none) noVT (some t)
   have hc:c.toNat=0:=hc.symm;rw[if_pos hc];exact⟨rfl,rfl⟩
theorem isO_some1 {st st1 st2:Option (List UInt8)} {v:VT} (h:IsO (st.bind byteR) 1 st1) (h2:IsO (st1.bind rdVal) v st2):IsO (st.bind someR) v st2:=by
 cases st with
 | none =>
  have h:st1=none:=h;subst h;exact h2
 | some l =>
  cases l with
  | nil =>
   have h:st1=none:=h;subst h;exact h2
  | cons c t =>
   obtain⟨hc,rfl⟩:=h;show IsO (if c.toNat=0 then some (noVT,t) else if c.toNat=1 then rdVal t else none) v st2
   have hc:c.toNat=1:=hc.symm;rw[if_neg (by omega),if_pos hc];exact h2
theorem isO_some2 {st st1:Option (List UInt8)} {n:Nat} {v:VT} (h:IsO (st.bind byteR) n st1) (hn:1<n):IsO (st.bind someR) v none:=by
 cases st with
 | none=>rfl
 | some l =>
  cases l with
  | nil=>rfl
  | cons c t =>
   obtain⟨hc,rfl⟩:=h;show IsO (if c.toNat=0 then some (noVT,t) else if c.toNat=1 then rdVal t else none) v none
   have hc:c.toNat=n:=hc.symm;rw[if_neg (by omega),if_neg (by omega)];rfl
theorem isome_any (b p:Nat) (s:ByteArray) (hs:s.size≤1000000) (st:Option (List UInt8)) (w:World) (h:RdAt b s st p w) :
  Calls Tryz.prog 28 #[.agg #[.pointer (some ⟨b,0,none⟩)]] w (InV b p s w (st.bind someR)):=by
 have hsf:∀ (a:Addr) (x:Nat) (m:Mode) (w:World),(store a (.float .f64 x) m).run Tryz.prog w=stored Tryz.prog w a (.float .f64 x) m:=fun a x m w=>run_store _ w a _ m rfl
 have h0:=h.below ((Below.refl _ _).alloc (Nat.le_refl _) (.cells #[.pointer (some ⟨b,0,none⟩)] 75));have hgB:(w.alloc (.cells #[.pointer (some ⟨b,0,none⟩)] 75)).heap[w.heap.size]?=some (.cells #[.pointer (some ⟨b,0,none⟩)] 75 (0,0)):=heap_alloc_new w _;have hF0:=(Fr.refl [b] w).alloc (.cells #[.pointer (some ⟨b,0,none⟩)] 75);have hnB:w.heap.size ∉ [b]:=by have:=h.lt;simp;omega
 have hbl:=h.lt;have hI:=isO_out 0 (st.bind byteR);have hY:=fun w h=>rbyte_any b p s hs st w h
 have HF:=zh (fun st (w:World) (h:RdAt b s st p w)=>ifail_any b p s st w h);have hgP:((w.alloc (.cells #[.pointer (some ⟨b,0,none⟩)] 75)).alloc (.cells #[.int .i64 0,.int .i64 0,.float .f64 0,.string ⟨#[]⟩,.slice none 0 0,.slice none 0 0] 28)).heap[w.heap.size+1]?=some (.cells #[.int .i64 0,.int .i64 0,.float .f64 0,.string ⟨#[]⟩,.slice none 0 0,.slice none 0 0] 28 (0,0)):=by
  have:=heap_alloc_new (w.alloc (.cells #[.pointer (some ⟨b,0,none⟩)] 75)) (.cells #[.int .i64 0,.int .i64 0,.float .f64 0,.string ⟨#[]⟩,.slice none 0 0,.slice none 0 0] 28);rwa [show(w.alloc (.cells #[.pointer (some ⟨b,0,none⟩)] 75)).heap.size=w.heap.size+1 by simp]at this
 have hgB':=(Lib.alloc_old (w.alloc (.cells #[.pointer (some ⟨b,0,none⟩)] 75)) (.cells #[.int .i64 0,.int .i64 0,.float .f64 0,.string ⟨#[]⟩,.slice none 0 0,.slice none 0 0] 28) w.heap.size (by simp)).trans hgB;have h0':=h0.below ((Below.refl _ _).alloc (Nat.le_refl _) (.cells #[.int .i64 0,.int .i64 0,.float .f64 0,.string ⟨#[]⟩,.slice none 0 0,.slice none 0 0] 28));have hF0':=hF0.alloc (.cells #[.int .i64 0,.int .i64 0,.float .f64 0,.string ⟨#[]⟩,.slice none 0 0,.slice none 0 0] 28);have hnP:w.heap.size+1 ∉ [b]:=by simp;omega
 clear h h0 hgB hF0;have hPw:w.heap.size+1=w.heap.size+1:=rfl;generalize hPg:w.heap.size+1=P at hgP hnP hPw;have HPg:=zh hPg;have hPw1:w.heap.size<P:=by omega
 clear hPw;generalize outR 0 (st.bind byteR)=q at *;obtain⟨n,st1⟩:=q;dsimp only at hI hY;have HV:=zh (fun(w:World) (h:RdAt b s st1 p w)=>ival_any b p s hs st1 w h);have HY:=zh hY;clear hY;by_cases h1:1<n
 ·have t1:decide ((1:Int)<(n:Int))=true:=by simp;omega
  have t1':1<n:=h1;have t2:((n:Int)==1)=false:=beq_eq_false_iff_ne.2 (by omega);have HI:=zh (isO_some2 (v:=noVT) hI h1);clear hI h1;go_in;go_upto_region 1 with (fail)
  clear hPg;generalize (w.alloc (.cells #[.pointer (some ⟨b,0,none⟩)] 75)).alloc (.cells #[.int .i64 0,.int .i64 0,.float .f64 0,.string ⟨#[]⟩,.slice none 0 0,.slice none 0 0] 28)=W1 at *;have x0:W1.cell? ⟨w.heap.size,0,none⟩=some (.pointer (some ⟨b,0,none⟩)):=by rw[zc hgB'];rfl
  go_wp2_with fail
  refine(HY.out _ h0').mono ?_;rintro e w2 ⟨rfl,h2,hf2⟩;dsimp only at h2 ⊢
  have hgB2:=hf2.at hgB' hnB;have hgP2:=hf2.at hgP hnP;have A2:=hF0'.trans hf2;clear x0 hgP h0' hf2 hgB' hF0';have x0:w2.cell? ⟨w.heap.size,0,none⟩=some (.pointer (some ⟨b,0,none⟩)):=by rw[zc hgB2];rfl
  go_wp2_with fail
  refine(HF.out _ _ h2).mono ?_;rintro e w3 ⟨rfl,h3,hf3⟩;have hgP3:=hf3.at hgP2 hnP;have A3:=A2.trans hf3;clear x0 hgB2 hgP2 A2 h2 hf3;have e0:w3.cell? ⟨P,0,none⟩=some (.int .i64 0):=by rw[zc hgP3];rfl
  have z0:w3.frozen? ⟨P,0,none⟩=false:=Lib.frozen_of_heap hgP3 0;have e1:w3.cell? ⟨P,1,none⟩=some (.int .i64 0):=by rw[zc hgP3];rfl
  have z1:w3.frozen? ⟨P,1,none⟩=false:=Lib.frozen_of_heap hgP3 1;have e2:w3.cell? ⟨P,2,none⟩=some (.float .f64 0):=by rw[zc hgP3];rfl
  have z2:w3.frozen? ⟨P,2,none⟩=false:=Lib.frozen_of_heap hgP3 2;have e3:w3.cell? ⟨P,3,none⟩=some (.string ⟨#[]⟩):=by rw[zc hgP3];rfl
  have z3:w3.frozen? ⟨P,3,none⟩=false:=Lib.frozen_of_heap hgP3 3;have e4:w3.cell? ⟨P,4,none⟩=some (.slice none 0 0):=by rw[zc hgP3];rfl
  have z4:w3.frozen? ⟨P,4,none⟩=false:=Lib.frozen_of_heap hgP3 4;have e5:w3.cell? ⟨P,5,none⟩=some (.slice none 0 0):=by rw[zc hgP3];rfl
  have z5:w3.frozen? ⟨P,5,none⟩=false:=Lib.frozen_of_heap hgP3 5;have hgF:(((((((w3).setCell ⟨P,0,none⟩ (.int .i64 0)).setCell ⟨P,1,none⟩ (.int .i64 0)).setCell ⟨P,2,none⟩ (.float .f64 0)).setCell ⟨P,3,none⟩ (.string ⟨#[]⟩)).setCell ⟨P,4,none⟩ (.slice none 0 0)).setCell ⟨P,5,none⟩ (.slice none 0 0)).heap[P]?=some (.cells #[.int .i64 0,.int .i64 0,.float .f64 0,.string ⟨#[]⟩,.slice none 0 0,.slice none 0 0] 28 (0,0)):=heap_setN (heap_setN (heap_setN (heap_setN (heap_setN (heap_setN hgP3 0 _) 1 _) 2 _) 3 _) 4 _) 5 _;have FF:=((((((Fr.refl [P] w3).setCell ⟨P,0,none⟩ (by simp) (.int .i64 0)).setCell ⟨P,1,none⟩ (by simp) (.int .i64 0)).setCell ⟨P,2,none⟩ (by simp) (.float .f64 0)).setCell ⟨P,3,none⟩ (by simp) (.string ⟨#[]⟩)).setCell ⟨P,4,none⟩ (by simp) (.slice none 0 0)).setCell ⟨P,5,none⟩ (by simp) (.slice none 0 0);go_wp2_with fail
  clear e0 z0 e1 z1 e2 z2 e3 z3 e4 z4 e5 z5;generalize ((((((w3).setCell ⟨P,0,none⟩ (.int .i64 0)).setCell ⟨P,1,none⟩ (.int .i64 0)).setCell ⟨P,2,none⟩ (.float .f64 0)).setCell ⟨P,3,none⟩ (.string ⟨#[]⟩)).setCell ⟨P,4,none⟩ (.slice none 0 0)).setCell ⟨P,5,none⟩ (.slice none 0 0)=X at *;obtain⟨y0,y1,y2,y3,y4,y5⟩:=cells6 hgF;have hrX:=RdAt.kept h3 FF (by simp;omega);have hff:=((A3.mono (m:=[b,P]) (by simp)).trans (FF.mono (m:=[b,P]) (by simp))).fewer (by omega);refine bodyPost_ret (v:=.agg #[.int .i64 0,.int .i64 0,.float .f64 0,.string ⟨#[]⟩,.slice none 0 0,.slice none 0 0]) (by simp[results,Tryz.results28,go_sem,y0,y1,y2,y3,y4,y5]) rfl ?_;exact⟨noVT,_,none,rfl,ValIn.leaf (t:=[]) (by omega) (by omega) (by unfold F64;omega) (by simp) 12,hrX,hff,HI.out⟩
 ·have t1:decide ((1:Int)<(n:Int))=false:=by simp;omega
  have t1':¬ 1<n:=h1;by_cases h0:n=0
  ·subst h0;have HI:=zh (isO_some0 hI);clear hI h1;go_in;go_upto_region 1 with (fail)
   clear hPg;generalize (w.alloc (.cells #[.pointer (some ⟨b,0,none⟩)] 75)).alloc (.cells #[.int .i64 0,.int .i64 0,.float .f64 0,.string ⟨#[]⟩,.slice none 0 0,.slice none 0 0] 28)=W1 at *;have x0:W1.cell? ⟨w.heap.size,0,none⟩=some (.pointer (some ⟨b,0,none⟩)):=by rw[zc hgB'];rfl
   go_wp2_with fail
   refine(HY.out _ h0').mono ?_;rintro e w2 ⟨rfl,h2,hf2⟩;dsimp only at h2 ⊢
   have hgB2:=hf2.at hgB' hnB;have hgP2:=hf2.at hgP hnP;have A2:=hF0'.trans hf2;clear x0 hgP h0' hf2 hgB' hF0';clear hgB2;have e0:w2.cell? ⟨P,0,none⟩=some (.int .i64 0):=by rw[zc hgP2];rfl
   have z0:w2.frozen? ⟨P,0,none⟩=false:=Lib.frozen_of_heap hgP2 0;have e1:w2.cell? ⟨P,1,none⟩=some (.int .i64 0):=by rw[zc hgP2];rfl
   have z1:w2.frozen? ⟨P,1,none⟩=false:=Lib.frozen_of_heap hgP2 1;have e2:w2.cell? ⟨P,2,none⟩=some (.float .f64 0):=by rw[zc hgP2];rfl
   have z2:w2.frozen? ⟨P,2,none⟩=false:=Lib.frozen_of_heap hgP2 2;have e3:w2.cell? ⟨P,3,none⟩=some (.string ⟨#[]⟩):=by rw[zc hgP2];rfl
   have z3:w2.frozen? ⟨P,3,none⟩=false:=Lib.frozen_of_heap hgP2 3;have e4:w2.cell? ⟨P,4,none⟩=some (.slice none 0 0):=by rw[zc hgP2];rfl
   have z4:w2.frozen? ⟨P,4,none⟩=false:=Lib.frozen_of_heap hgP2 4;have e5:w2.cell? ⟨P,5,none⟩=some (.slice none 0 0):=by rw[zc hgP2];rfl
   have z5:w2.frozen? ⟨P,5,none⟩=false:=Lib.frozen_of_heap hgP2 5;have hgF:(((((((w2).setCell ⟨P,0,none⟩ (.int .i64 0)).setCell ⟨P,1,none⟩ (.int .i64 0)).setCell ⟨P,2,none⟩ (.float .f64 0)).setCell ⟨P,3,none⟩ (.string ⟨#[]⟩)).setCell ⟨P,4,none⟩ (.slice none 0 0)).setCell ⟨P,5,none⟩ (.slice none 0 0)).heap[P]?=some (.cells #[.int .i64 0,.int .i64 0,.float .f64 0,.string ⟨#[]⟩,.slice none 0 0,.slice none 0 0] 28 (0,0)):=heap_setN (heap_setN (heap_setN (heap_setN (heap_setN (heap_setN hgP2 0 _) 1 _) 2 _) 3 _) 4 _) 5 _;have FF:=((((((Fr.refl [P] w2).setCell ⟨P,0,none⟩ (by simp) (.int .i64 0)).setCell ⟨P,1,none⟩ (by simp) (.int .i64 0)).setCell ⟨P,2,none⟩ (by simp) (.float .f64 0)).setCell ⟨P,3,none⟩ (by simp) (.string ⟨#[]⟩)).setCell ⟨P,4,none⟩ (by simp) (.slice none 0 0)).setCell ⟨P,5,none⟩ (by simp) (.slice none 0 0);go_wp2_with fail
   clear e0 z0 e1 z1 e2 z2 e3 z3 e4 z4 e5 z5;generalize ((((((w2).setCell ⟨P,0,none⟩ (.int .i64 0)).setCell ⟨P,1,none⟩ (.int .i64 0)).setCell ⟨P,2,none⟩ (.float .f64 0)).setCell ⟨P,3,none⟩ (.string ⟨#[]⟩)).setCell ⟨P,4,none⟩ (.slice none 0 0)).setCell ⟨P,5,none⟩ (.slice none 0 0)=X at *;obtain⟨y0,y1,y2,y3,y4,y5⟩:=cells6 hgF;have hrX:=RdAt.kept h2 FF (by simp;omega);have hff:=((A2.mono (m:=[b,P]) (by simp)).trans (FF.mono (m:=[b,P]) (by simp))).fewer (by omega);refine bodyPost_ret (v:=.agg #[.int .i64 0,.int .i64 0,.float .f64 0,.string ⟨#[]⟩,.slice none 0 0,.slice none 0 0]) (by simp[results,Tryz.results28,go_sem,y0,y1,y2,y3,y4,y5]) rfl ?_;exact⟨noVT,_,_,rfl,ValIn.leaf (t:=[]) (by omega) (by omega) (by unfold F64;omega) (by simp) 12,hrX,hff,HI.out⟩
  ·obtain rfl:n=1:=by omega
   have HI:=zh hI;clear hI h1 h0;go_in;go_upto_region 1 with (fail)
   clear hPg;generalize (w.alloc (.cells #[.pointer (some ⟨b,0,none⟩)] 75)).alloc (.cells #[.int .i64 0,.int .i64 0,.float .f64 0,.string ⟨#[]⟩,.slice none 0 0,.slice none 0 0] 28)=W1 at *;have x0:W1.cell? ⟨w.heap.size,0,none⟩=some (.pointer (some ⟨b,0,none⟩)):=by rw[zc hgB'];rfl
   go_wp2_with fail
   refine(HY.out _ h0').mono ?_;rintro e w2 ⟨rfl,h2,hf2⟩;dsimp only at h2 ⊢
   have hgB2:=hf2.at hgB' hnB;have hgP2:=hf2.at hgP hnP;have A2:=hF0'.trans hf2;clear x0 hgP h0' hf2 hgB' hF0';have x0:w2.cell? ⟨w.heap.size,0,none⟩=some (.pointer (some ⟨b,0,none⟩)):=by rw[zc hgB2];rfl
   go_wp2_with fail
   refine(HV.out _ h2).mono ?_;rintro e w3 ⟨v,cs,st2,rfl,V3,h3,hf3,hiso⟩;obtain⟨na,nl,nc,ia,il,ic,rfl⟩:=V3.six;have hgP3:=hf3.at hgP2 hnP;have A3:=A2.trans hf3;have HI2:=zh (isO_some1 HI.out hiso);have hP2:=lt_of_block hgP2;have V4:=V3.kept (T:=fun g=>P<g) (Nat.le_refl _) (fun g hg _=>⟨Nat.lt_of_lt_of_le hP2 hg,rfl⟩);clear x0 hgB2 hgP2 A2 h2 hf3 hiso V3;have e0:w3.cell? ⟨P,0,none⟩=some (.int .i64 0):=by rw[zc hgP3];rfl
   have z0:w3.frozen? ⟨P,0,none⟩=false:=Lib.frozen_of_heap hgP3 0;have e1:w3.cell? ⟨P,1,none⟩=some (.int .i64 0):=by rw[zc hgP3];rfl
   have z1:w3.frozen? ⟨P,1,none⟩=false:=Lib.frozen_of_heap hgP3 1;have e2:w3.cell? ⟨P,2,none⟩=some (.float .f64 0):=by rw[zc hgP3];rfl
   have z2:w3.frozen? ⟨P,2,none⟩=false:=Lib.frozen_of_heap hgP3 2;have e3:w3.cell? ⟨P,3,none⟩=some (.string ⟨#[]⟩):=by rw[zc hgP3];rfl
   have z3:w3.frozen? ⟨P,3,none⟩=false:=Lib.frozen_of_heap hgP3 3;have e4:w3.cell? ⟨P,4,none⟩=some (.slice none 0 0):=by rw[zc hgP3];rfl
   have z4:w3.frozen? ⟨P,4,none⟩=false:=Lib.frozen_of_heap hgP3 4;have e5:w3.cell? ⟨P,5,none⟩=some (.slice none 0 0):=by rw[zc hgP3];rfl
   have z5:w3.frozen? ⟨P,5,none⟩=false:=Lib.frozen_of_heap hgP3 5;have hgF:(((((((w3).setCell ⟨P,0,none⟩ (.int .i64 v.kind)).setCell ⟨P,1,none⟩ (.int .i64 v.num)).setCell ⟨P,2,none⟩ (.float .f64 v.flt)).setCell ⟨P,3,none⟩ (.string ⟨v.str.toArray⟩)).setCell ⟨P,4,none⟩ (.slice na nl nc)).setCell ⟨P,5,none⟩ (.slice ia il ic)).heap[P]?=some (.cells #[.int .i64 v.kind,.int .i64 v.num,.float .f64 v.flt,.string ⟨v.str.toArray⟩,.slice na nl nc,.slice ia il ic] 28 (0,0)):=heap_setN (heap_setN (heap_setN (heap_setN (heap_setN (heap_setN hgP3 0 _) 1 _) 2 _) 3 _) 4 _) 5 _;have FF:=((((((Fr.refl [P] w3).setCell ⟨P,0,none⟩ (by simp) (.int .i64 v.kind)).setCell ⟨P,1,none⟩ (by simp) (.int .i64 v.num)).setCell ⟨P,2,none⟩ (by simp) (.float .f64 v.flt)).setCell ⟨P,3,none⟩ (by simp) (.string ⟨v.str.toArray⟩)).setCell ⟨P,4,none⟩ (by simp) (.slice na nl nc)).setCell ⟨P,5,none⟩ (by simp) (.slice ia il ic);go_wp2_with fail
   clear e0 z0 e1 z1 e2 z2 e3 z3 e4 z4 e5 z5;generalize ((((((w3).setCell ⟨P,0,none⟩ (.int .i64 v.kind)).setCell ⟨P,1,none⟩ (.int .i64 v.num)).setCell ⟨P,2,none⟩ (.float .f64 v.flt)).setCell ⟨P,3,none⟩ (.string ⟨v.str.toArray⟩)).setCell ⟨P,4,none⟩ (.slice na nl nc)).setCell ⟨P,5,none⟩ (.slice ia il ic)=X at *;obtain⟨y0,y1,y2,y3,y4,y5⟩:=cells6 hgF;have hrX:=RdAt.kept h3 FF (by simp;omega);have hff:=((A3.mono (m:=[b,P]) (by simp)).trans (FF.mono (m:=[b,P]) (by simp))).fewer (by omega);refine bodyPost_ret (v:=.agg #[.int .i64 v.kind,.int .i64 v.num,.float .f64 v.flt,.string ⟨v.str.toArray⟩,.slice na nl nc,.slice ia il ic]) (by simp[results,Tryz.results28,go_sem,y0,y1,y2,y3,y4,y5]) rfl ?_;exact⟨v,_,_,rfl,V4.kept FF.size (fun g hg hl=>⟨by have h9:P<g:=hg;omega,FF.block g hl (by have h9:P<g:=hg;simp;omega)⟩),hrX,hff,HI2.out⟩
end
section
open Go.RowKit
theorem ssome_out (s:ByteArray) (b:Nat) (k:Nat) (hk:s.size≤k) (w:World) (hb:SrB b s k w) :
  Calls Tryz.prog 23 #[.pointer (some ⟨b,0,none⟩)] w (SvPost b s w none):=by
 have HMn:=zh must_no;have hA:=(Fr.refl [b] w).alloc (.cells #[.int .i64 0,.int .i64 0,.float .f64 0,.string ⟨#[]⟩,.slice none 0 0,.slice none 0 0] 28);have hb0:SrB b s k (w.alloc (.cells #[.int .i64 0,.int .i64 0,.float .f64 0,.string ⟨#[]⟩,.slice none 0 0,.slice none 0 0] 28)):=hb.below ((Below.refl _ _).alloc (Nat.le_refl _) _);have t1:decide ((k:Int)<(s.size:Int))=false:=by simp;omega
 have t2:decide (k<s.size)=false:=by simp;omega
 clear hk hb;generalize hW0:w.alloc (.cells #[.int .i64 0,.int .i64 0,.float .f64 0,.string ⟨#[]⟩,.slice none 0 0,.slice none 0 0] 28)=W0 at *;have HW0:=zh hW0;clear hW0;have c0:=hb0.c0;have c1:=hb0.c1;clear hb0;go_in;go_wp2_with fail
 rw[HW0.out];refine wp_still_tailG 10 (by kernel_rfl) (by kernel_rfl) ?_;simp only[List.take_succ_cons,List.take_zero,List.drop_succ_cons,List.drop_zero];iterate 10 (refine StillG.step (fun K hK=>?_);go_simp;refine hK _ ?_;clear hK K)
 refine StillG.nil ?_;go_wp2_with fail
 refine(HMn.out _).mono ?_;rintro e w2 ⟨rfl,rfl⟩;go_wp2_with fail
 exact⟨rfl,rfl,hA.drew⟩
theorem ssomeL (s:ByteArray) (hs:s.size≤100000000) (b:Nat) (l:List UInt8) (w:World) (hb:SrL b s l w) :
  Calls Tryz.prog 23 #[.pointer (some ⟨b,0,none⟩)] w (SvPost b s w (someR l)):=by
 have hsf:∀ (a:Addr) (x:Nat) (m:Mode) (w:World),(store a (.float .f64 x) m).run Tryz.prog w=stored Tryz.prog w a (.float .f64 x) m:=fun a x m w=>run_store _ w a _ m rfl
 have HV:=zh (fun l w hb=>svalL s hs b l w hb);have hl:=hb.1.back;have hb1:=hb.2;have hbl:=hb.lt;clear hb;generalize hkk:s.size - l.length=k at *;clear hkk;subst hl;have HB1:=zh hb1;have HMy:=zh must_yes;have HMn:=zh must_no;have hA:=(Fr.refl [b] w).alloc (.cells #[.int .i64 0,.int .i64 0,.float .f64 0,.string ⟨#[]⟩,.slice none 0 0,.slice none 0 0] 28);have hgA:(w.alloc (.cells #[.int .i64 0,.int .i64 0,.float .f64 0,.string ⟨#[]⟩,.slice none 0 0,.slice none 0 0] 28)).heap[w.heap.size]?=some (.cells #[.int .i64 0,.int .i64 0,.float .f64 0,.string ⟨#[]⟩,.slice none 0 0,.slice none 0 0] 28 (0,0)):=heap_alloc_new w _;have hb0:SrB b s k (w.alloc (.cells #[.int .i64 0,.int .i64 0,.float .f64 0,.string ⟨#[]⟩,.slice none 0 0,.slice none 0 0] 28)):=hb1.below ((Below.refl _ _).alloc (Nat.le_refl _) _);clear hb1;generalize hW0:w.alloc (.cells #[.int .i64 0,.int .i64 0,.float .f64 0,.string ⟨#[]⟩,.slice none 0 0,.slice none 0 0] 28)=W0 at *;generalize hG:w.heap.size=G at *;have HW0:=zh hW0;have HG:=zh hG;clear hW0 hG;have HGA:=zh hgA;clear hgA;have c0:=hb0.c0;have c1:=hb0.c1;have f1:=hb0.fz 1;have hbG:b≠G:=by omega
 have hL:s.data.toList.length=s.size:=by simp
 by_cases hk:k<s.size
 ·have hd:=drop_byte (l:=s.data.toList) (k:=k) (by rw[hL];exact hk);have hg:s.data.toList.getD k 0=s[k]'hk:=by simp[List.getD,hk];rfl
  rw[hg]at hd;have hR:someR (s.data.toList.drop k)=if (s[k]'hk).toNat=0 then some (noVT,s.data.toList.drop (k+1)) else if (s[k]'hk).toNat=1 then rdVal (s.data.toList.drop (k+1)) else none:=by rw[hd];rfl
  clear hd hg hL;have t1:decide ((k:Int)<(s.size:Int))=true:=by simp;omega
  have b1:(0:Int)≤(k:Int):=by omega
  have b2:(k:Int)<(s.size:Int):=by omega
  have w1:IntKind.i64.wrap ((k:Int)+1 - 1)=(k:Int):=by rw[IntKind.wrap_i64];omega
  have w2:IntKind.i64.wrap (k:Int)=(k:Int):=by rw[IntKind.wrap_i64];omega
  by_cases h0:(s[k]'hk).toNat=0
  ·rw[if_pos h0]at hR;rw[hR];clear hR;have t2:decide (((s[k]'hk).toNat:Int)≤1)=true:=by rw[h0];rfl
   have t3:(((s[k]'hk).toNat:Int)==0)=true:=by rw[h0];rfl
   go_in;go_wp2_with fail
   rw[HW0.out,HG.out];go_quiet (refine Calls.quiet_of_same ((HMy.out _).mono fun _ _ h=>⟨h.1,h.2.symm⟩))
   have B0:SrB b s k (W0.drewN nq):=hb0.drewN nq;have A2:=hA.drewN nq;have g2:(W0.drewN nq).heap[G]?=_:=HGA.out;clear c0 c1 f1 t1;generalize W0.drewN nq=W1 at *;have c0:=B0.c0;have c1:=B0.c1;go_wp2_with fail
   go_quiet (fail)
   have B0:SrB b s k (W1.drewN nq):=B0.drewN nq;have A2:=A2.drewN nq;have g2:(W1.drewN nq).heap[G]?=_:=g2;clear c0 c1;generalize W1.drewN nq=W2 at *;have c0:=B0.c0;have c1:=B0.c1;have f1:=B0.fz 1;go_wp2_with fail
   have A1:SrB b s (k+1) (W2.setCell ⟨b,1,none⟩ (.int .i64 ((k:Int)+1))):=B0.put1 (k+1);have A2:=A2.setCell (l:=[b]) ⟨b,1,none⟩ (by simp) (.int .i64 ((k:Int)+1));have g2:=((Fr.refl [b] W2).setCell (l:=[b]) ⟨b,1,none⟩ (by simp) (.int .i64 ((k:Int)+1))).at g2 (by simp;omega);clear c0 c1 f1 B0;generalize W2.setCell ⟨b,1,none⟩ (.int .i64 ((k:Int)+1))=W3 at *;have A1:SrL b s (s.data.toList.drop (k+1)) W3:=⟨EndOf.start s (k+1) (by omega),by
    rw[show s.size - (s.data.toList.drop (k+1)).length=k+1 by rw[List.length_drop];have:s.data.toList.length=s.size:=(by simp);omega]
    exact A1⟩
   refine(HMy.out _).mono ?_;rintro e w5 ⟨rfl,rfl⟩;have e0:W3.cell? ⟨G,0,none⟩=some (.int .i64 0):=by rw[zc g2];rfl
   have z0:W3.frozen? ⟨G,0,none⟩=false:=Lib.frozen_of_heap g2 0;have e1:W3.cell? ⟨G,1,none⟩=some (.int .i64 0):=by rw[zc g2];rfl
   have z1:W3.frozen? ⟨G,1,none⟩=false:=Lib.frozen_of_heap g2 1;have e2:W3.cell? ⟨G,2,none⟩=some (.float .f64 0):=by rw[zc g2];rfl
   have z2:W3.frozen? ⟨G,2,none⟩=false:=Lib.frozen_of_heap g2 2;have e3:W3.cell? ⟨G,3,none⟩=some (.string ⟨#[]⟩):=by rw[zc g2];rfl
   have z3:W3.frozen? ⟨G,3,none⟩=false:=Lib.frozen_of_heap g2 3;have e4:W3.cell? ⟨G,4,none⟩=some (.slice none 0 0):=by rw[zc g2];rfl
   have z4:W3.frozen? ⟨G,4,none⟩=false:=Lib.frozen_of_heap g2 4;have e5:W3.cell? ⟨G,5,none⟩=some (.slice none 0 0):=by rw[zc g2];rfl
   have z5:W3.frozen? ⟨G,5,none⟩=false:=Lib.frozen_of_heap g2 5;go_wp2_with fail
   have hgF:(((((((W3).setCell ⟨G,0,none⟩ (.int .i64 0)).setCell ⟨G,1,none⟩ (.int .i64 0)).setCell ⟨G,2,none⟩ (.float .f64 0)).setCell ⟨G,3,none⟩ (.string ⟨#[]⟩)).setCell ⟨G,4,none⟩ (.slice none 0 0)).setCell ⟨G,5,none⟩ (.slice none 0 0)).heap[G]?=some (.cells #[.int .i64 0,.int .i64 0,.float .f64 0,.string ⟨#[]⟩,.slice none 0 0,.slice none 0 0] 28 (0,0)):=heap_setN (heap_setN (heap_setN (heap_setN (heap_setN (heap_setN g2 0 _) 1 _) 2 _) 3 _) 4 _) 5 _;have FF:=((((((Fr.refl [G] W3).setCell ⟨G,0,none⟩ (by simp) (.int .i64 0)).setCell ⟨G,1,none⟩ (by simp) (.int .i64 0)).setCell ⟨G,2,none⟩ (by simp) (.float .f64 0)).setCell ⟨G,3,none⟩ (by simp) (.string ⟨#[]⟩)).setCell ⟨G,4,none⟩ (by simp) (.slice none 0 0)).setCell ⟨G,5,none⟩ (by simp) (.slice none 0 0);clear e0 z0 e1 z1 e2 z2 e3 z3 e4 z4 e5 z5;generalize ((((((W3).setCell ⟨G,0,none⟩ (.int .i64 0)).setCell ⟨G,1,none⟩ (.int .i64 0)).setCell ⟨G,2,none⟩ (.float .f64 0)).setCell ⟨G,3,none⟩ (.string ⟨#[]⟩)).setCell ⟨G,4,none⟩ (.slice none 0 0)).setCell ⟨G,5,none⟩ (.slice none 0 0)=Y at *;obtain⟨y0,y1,y2,y3,y4,y5⟩:=cells6 hgF;have hff:=(A2.mono (m:=[b,G]) (by simp)).trans (FF.mono (m:=[b,G]) (by simp));have hrY:=A1.kept FF (by simpa using hbG);refine bodyPost_ret (v:=.agg #[.int .i64 0,.int .i64 0,.float .f64 0,.string ⟨#[]⟩,.slice none 0 0,.slice none 0 0]) (by simp[results,Tryz.results23,go_sem,y0,y1,y2,y3,y4,y5]) rfl ?_;exact⟨_,rfl,ValIn.leaf (k:=0) (n:=0) (f:=0) (t:=[]) (by omega) (by omega) (by unfold F64;omega) (by simp) 11,hrY,hff.fewer (Nat.le_of_eq HG.out)⟩
  ·by_cases h1:(s[k]'hk).toNat=1
   ·rw[if_neg h0,if_pos h1]at hR;rw[hR];clear hR;have t2:decide (((s[k]'hk).toNat:Int)≤1)=true:=by rw[h1];rfl
    have t3:(((s[k]'hk).toNat:Int)==0)=false:=by rw[h1];rfl
    have HVV:=zh (HV.out (s.data.toList.drop (k+1)));clear h0 HV;go_in;go_wp2_with fail
    rw[HW0.out,HG.out];go_quiet (refine Calls.quiet_of_same ((HMy.out _).mono fun _ _ h=>⟨h.1,h.2.symm⟩))
    have B0:SrB b s k (W0.drewN nq):=hb0.drewN nq;have A2:=hA.drewN nq;have g2:(W0.drewN nq).heap[G]?=_:=HGA.out;clear c0 c1 f1 t1;generalize W0.drewN nq=W1 at *;have c0:=B0.c0;have c1:=B0.c1;go_wp2_with fail
    go_quiet (fail)
    have B0:SrB b s k (W1.drewN nq):=B0.drewN nq;have A2:=A2.drewN nq;have g2:(W1.drewN nq).heap[G]?=_:=g2;clear c0 c1;generalize W1.drewN nq=W2 at *;have c0:=B0.c0;have c1:=B0.c1;have f1:=B0.fz 1;go_wp2_with fail
    have A1:SrB b s (k+1) (W2.setCell ⟨b,1,none⟩ (.int .i64 ((k:Int)+1))):=B0.put1 (k+1);have A2:=A2.setCell (l:=[b]) ⟨b,1,none⟩ (by simp) (.int .i64 ((k:Int)+1));have g2:=((Fr.refl [b] W2).setCell (l:=[b]) ⟨b,1,none⟩ (by simp) (.int .i64 ((k:Int)+1))).at g2 (by simp;omega);clear c0 c1 f1 B0;generalize W2.setCell ⟨b,1,none⟩ (.int .i64 ((k:Int)+1))=W3 at *;have A1:SrL b s (s.data.toList.drop (k+1)) W3:=⟨EndOf.start s (k+1) (by omega),by
     rw[show s.size - (s.data.toList.drop (k+1)).length=k+1 by rw[List.length_drop];have:s.data.toList.length=s.size:=(by simp);omega]
     exact A1⟩
    refine(HMy.out _).mono ?_;rintro e w5 ⟨rfl,rfl⟩;generalize s.data.toList.drop (k+1)=l1 at *;have hV:=HVV.out W3 A1;clear HVV;generalize rdVal l1=r at *;cases r with
    | none =>
     have HVV:=zh hV;go_wp2_with fail
     refine(HVV.out).mono ?_;rintro e w4 ⟨rfl,hf4⟩;go_wp2_with fail
     exact⟨rfl,rfl,A2.trans hf4⟩
    | some r =>
     obtain⟨v,l'⟩:=r;have HVV:=zh hV;clear hV;go_wp2_with fail
     refine(HVV.out).mono ?_;rintro e w4 ⟨cs,rfl,hv4,h4,hf4⟩;obtain⟨na,nl,nc,ia,il,ic,rfl⟩:=hv4.six;have g4:=hf4.at g2 (by simp;omega);have hGW:G<W3.heap.size:=lt_of_block g2;have A4:=A2.trans hf4;have e0:w4.cell? ⟨G,0,none⟩=some (.int .i64 0):=by rw[zc g4];rfl
     have z0:w4.frozen? ⟨G,0,none⟩=false:=Lib.frozen_of_heap g4 0;have e1:w4.cell? ⟨G,1,none⟩=some (.int .i64 0):=by rw[zc g4];rfl
     have z1:w4.frozen? ⟨G,1,none⟩=false:=Lib.frozen_of_heap g4 1;have e2:w4.cell? ⟨G,2,none⟩=some (.float .f64 0):=by rw[zc g4];rfl
     have z2:w4.frozen? ⟨G,2,none⟩=false:=Lib.frozen_of_heap g4 2;have e3:w4.cell? ⟨G,3,none⟩=some (.string ⟨#[]⟩):=by rw[zc g4];rfl
     have z3:w4.frozen? ⟨G,3,none⟩=false:=Lib.frozen_of_heap g4 3;have e4:w4.cell? ⟨G,4,none⟩=some (.slice none 0 0):=by rw[zc g4];rfl
     have z4:w4.frozen? ⟨G,4,none⟩=false:=Lib.frozen_of_heap g4 4;have e5:w4.cell? ⟨G,5,none⟩=some (.slice none 0 0):=by rw[zc g4];rfl
     have z5:w4.frozen? ⟨G,5,none⟩=false:=Lib.frozen_of_heap g4 5;go_wp2_with fail
     have hgF:(((((((w4).setCell ⟨G,0,none⟩ (.int .i64 v.kind)).setCell ⟨G,1,none⟩ (.int .i64 v.num)).setCell ⟨G,2,none⟩ (.float .f64 v.flt)).setCell ⟨G,3,none⟩ (.string ⟨v.str.toArray⟩)).setCell ⟨G,4,none⟩ (.slice na nl nc)).setCell ⟨G,5,none⟩ (.slice ia il ic)).heap[G]?=some (.cells #[.int .i64 v.kind,.int .i64 v.num,.float .f64 v.flt,.string ⟨v.str.toArray⟩,.slice na nl nc,.slice ia il ic] 28 (0,0)):=heap_setN (heap_setN (heap_setN (heap_setN (heap_setN (heap_setN g4 0 _) 1 _) 2 _) 3 _) 4 _) 5 _;have FF:=((((((Fr.refl [G] w4).setCell ⟨G,0,none⟩ (by simp) (.int .i64 v.kind)).setCell ⟨G,1,none⟩ (by simp) (.int .i64 v.num)).setCell ⟨G,2,none⟩ (by simp) (.float .f64 v.flt)).setCell ⟨G,3,none⟩ (by simp) (.string ⟨v.str.toArray⟩)).setCell ⟨G,4,none⟩ (by simp) (.slice na nl nc)).setCell ⟨G,5,none⟩ (by simp) (.slice ia il ic);clear e0 z0 e1 z1 e2 z2 e3 z3 e4 z4 e5 z5;generalize ((((((w4).setCell ⟨G,0,none⟩ (.int .i64 v.kind)).setCell ⟨G,1,none⟩ (.int .i64 v.num)).setCell ⟨G,2,none⟩ (.float .f64 v.flt)).setCell ⟨G,3,none⟩ (.string ⟨v.str.toArray⟩)).setCell ⟨G,4,none⟩ (.slice na nl nc)).setCell ⟨G,5,none⟩ (.slice ia il ic)=Y at *;obtain⟨y0,y1,y2,y3,y4,y5⟩:=cells6 hgF;have hff:=(A4.mono (m:=[b,G]) (by simp)).trans (FF.mono (m:=[b,G]) (by simp));have hrY:=h4.kept FF (by simpa using hbG);refine bodyPost_ret (v:=.agg #[.int .i64 v.kind,.int .i64 v.num,.float .f64 v.flt,.string ⟨v.str.toArray⟩,.slice na nl nc,.slice ia il ic]) (by simp[results,Tryz.results23,go_sem,y0,y1,y2,y3,y4,y5]) rfl ?_;exact⟨_,rfl,hv4.kept FF.size (fun g h1 h2=>⟨by have:=HG.out;omega,FF.block g h2 (by simp;omega)⟩),hrY,hff.fewer (Nat.le_of_eq HG.out)⟩
   ·rw[if_neg h0,if_neg h1]at hR;rw[hR];clear hR;have t2:decide (((s[k]'hk).toNat:Int)≤1)=false:=by simp;omega
    go_in;go_wp2_with fail
    rw[HW0.out,HG.out];go_quiet (refine Calls.quiet_of_same ((HMy.out _).mono fun _ _ h=>⟨h.1,h.2.symm⟩))
    have B0:SrB b s k (W0.drewN nq):=hb0.drewN nq;have A2:=hA.drewN nq;have g2:(W0.drewN nq).heap[G]?=_:=HGA.out;clear c0 c1 f1 t1;generalize W0.drewN nq=W1 at *;have c0:=B0.c0;have c1:=B0.c1;go_wp2_with fail
    go_quiet (fail)
    have B0:SrB b s k (W1.drewN nq):=B0.drewN nq;have A2:=A2.drewN nq;have g2:(W1.drewN nq).heap[G]?=_:=g2;clear c0 c1;generalize W1.drewN nq=W2 at *;have c0:=B0.c0;have c1:=B0.c1;have f1:=B0.fz 1;go_wp2_with fail
    have A1:SrB b s (k+1) (W2.setCell ⟨b,1,none⟩ (.int .i64 ((k:Int)+1))):=B0.put1 (k+1);have A2:=A2.setCell (l:=[b]) ⟨b,1,none⟩ (by simp) (.int .i64 ((k:Int)+1));have g2:=((Fr.refl [b] W2).setCell (l:=[b]) ⟨b,1,none⟩ (by simp) (.int .i64 ((k:Int)+1))).at g2 (by simp;omega);clear c0 c1 f1 B0;generalize W2.setCell ⟨b,1,none⟩ (.int .i64 ((k:Int)+1))=W3 at *;have A1:SrL b s (s.data.toList.drop (k+1)) W3:=⟨EndOf.start s (k+1) (by omega),by
     rw[show s.size - (s.data.toList.drop (k+1)).length=k+1 by rw[List.length_drop];have:s.data.toList.length=s.size:=(by simp);omega]
     exact A1⟩
    refine(HMn.out _).mono ?_;rintro e w5 ⟨rfl,rfl⟩;go_wp2_with fail
    exact⟨rfl,rfl,A2⟩
 ·have hR:someR (s.data.toList.drop k)=none:=by rw[List.drop_eq_nil_of_le (by rw[hL];omega)];rfl
  rw[hR];clear hR;exact ssome_out s b k (by omega) w HB1.out
end
end Go.Proofs.YtepaaochgljcdaaGreatDoor
