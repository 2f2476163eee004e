/-
  Yi, Yj, Yk in one text.
-/
import Derived.Test.YtepaaochgljcdaaGreatDoorS04
import Derived.Test.YtepaaochgljcdaaGreatDoorCl
set_option maxRecDepth 100000
set_option maxHeartbeats 4000000
namespace Go.Proofs.YtepaaochgljcdaaGreatDoor
section
open Go.RowKit
def StrsIn (S:Nat→Prop) (w:World) (l:List (List UInt8)) (v:Value):Prop :=
 l.length≤140737488355328∧(∀ s ∈ l,s.length≤140737488355328) ∧
 ((l=[]∧∃ p c,v=.slice p 0 c)∨∃ g off cap,v=.slice (some ⟨g,off,none⟩) l.length cap∧(S g∧g<w.heap.size)∧∀ i,i<l.length→w.cell? ⟨g,off+i,none⟩=some (.string ⟨(l.getD i []).toArray⟩))
/-- the cells of a value, so many deep; its blocks are all of the kind S -/
def ValIn (S:Nat→Prop) (w:World):Nat→VT→Array Value→Prop
 | 0,_,_=>False
 | d+1,v,cs=>∃ pn pi,cs=#[.int .i64 v.kind,.int .i64 v.num,.float .f64 v.flt,.string ⟨v.str.toArray⟩,pn,pi] ∧
   (-9223372036854775808≤v.kind∧v.kind≤9223372036854775807)∧(-9223372036854775808≤v.num∧v.num≤9223372036854775807)∧F64 v.flt∧v.str.length≤140737488355328∧StrsIn S w v.names pn∧v.items.length≤140737488355328 ∧
   ((v.items=[]∧∃ p c,pi=.slice p 0 c)∨∃ g off cap,pi=.slice (some ⟨g,off,none⟩) v.items.length cap∧(S g∧g<w.heap.size) ∧
    ∀ i,i<v.items.length→∃ ds,ValIn S w d (v.items.getD i noVT) ds∧∀ j,j<6→w.cell? ⟨g,off+i*6+j,none⟩=ds[j]?)
theorem cell_same {w w':World} {g i:Nat} (h:w'.heap[g]?=w.heap[g]?):w'.cell? ⟨g,i,none⟩=w.cell? ⟨g,i,none⟩:=by
 unfold World.cell?;simp only[h]
theorem StrsIn.at {S:Nat→Prop} {w:World} {l:List (List UInt8)} {v:Value} (h:StrsIn S w l v):Strs w l v:=by
 obtain⟨h1,h2,h|⟨g,off,cap,h3,h4,h5⟩⟩:=h
 ·exact⟨h1,h2,.inl h⟩
 ·exact⟨h1,h2,.inr ⟨g,off,cap,h3,h4.2,h5⟩⟩
theorem ValIn.at {S:Nat→Prop} {w:World}:∀ {d:Nat} {v:VT} {cs:Array Value},ValIn S w d v cs→ValAt w d v cs
 | 0,_,_,h=>h.elim
 | d+1,v,cs,h=>by
  obtain⟨pn,pi,h1,h2,h3,h4,h5,h6,h7,h8⟩:=h;refine⟨pn,pi,h1,h2,h3,h4,h5,h6.at,h7,?_⟩;rcases h8 with h8|⟨g,off,cap,a1,a2,a3⟩
  ·exact .inl h8
  ·refine .inr ⟨g,off,cap,a1,a2.2,fun i hi=>?_⟩;obtain⟨ds,b1,b2⟩:=a3 i hi;exact⟨ds,b1.at,b2⟩
/-- another kind that holds each of its blocks; another world that has them all as they were -/
theorem StrsIn.kept {S T:Nat→Prop} {w w':World} (hs:w.heap.size≤w'.heap.size) (hk:∀ g,S g→g<w.heap.size→T g∧w'.heap[g]?=w.heap[g]?) {l:List (List UInt8)} {v:Value} (h:StrsIn S w l v):StrsIn T w' l v:=by
 obtain⟨h1,h2,h|⟨g,off,cap,h3,h4,h5⟩⟩:=h
 ·exact⟨h1,h2,.inl h⟩
 ·obtain⟨k1,k2⟩:=hk g h4.1 h4.2;exact⟨h1,h2,.inr ⟨g,off,cap,h3,⟨k1,Nat.lt_of_lt_of_le h4.2 hs⟩,fun i hi=>(cell_same k2).trans (h5 i hi)⟩⟩
theorem ValIn.kept {S T:Nat→Prop} {w w':World} (hs:w.heap.size≤w'.heap.size) (hk:∀ g,S g→g<w.heap.size→T g∧w'.heap[g]?=w.heap[g]?):∀ {d:Nat} {v:VT} {cs:Array Value},ValIn S w d v cs→ValIn T w' d v cs
 | 0,_,_,h=>h.elim
 | d+1,v,cs,h=>by
  obtain⟨pn,pi,h1,h2,h3,h4,h5,h6,h7,h8⟩:=h;refine⟨pn,pi,h1,h2,h3,h4,h5,h6.kept hs hk,h7,?_⟩;rcases h8 with h8|⟨g,off,cap,a1,a2,a3⟩
  ·exact .inl h8
  ·obtain⟨k1,k2⟩:=hk g a2.1 a2.2;refine .inr ⟨g,off,cap,a1,⟨k1,Nat.lt_of_lt_of_le a2.2 hs⟩,fun i hi=>?_⟩;obtain⟨ds,b1,b2⟩:=a3 i hi;exact⟨ds,ValIn.kept hs hk b1,fun j hj=>(cell_same k2).trans (b2 j hj)⟩
/-- behind a call that leaves all blocks but some as they are -/
theorem ValIn.fr {S:Nat→Prop} {w w':World} {l:List Nat} (hf:Fr l w w') (hS:∀ g ∈ l,¬ S g) {d:Nat} {v:VT} {cs:Array Value} (h:ValIn S w d v cs):ValIn S w' d v cs :=
 h.kept hf.size fun g hg hl=>⟨hg,hf.block g hl fun hm=>hS g hm hg⟩
/-- a leaf -/
theorem ValIn.leaf {S:Nat→Prop} {w:World} {k n:Int} {f:Nat} {t:List UInt8} (hk : -9223372036854775808≤k∧k≤9223372036854775807) (hn : -9223372036854775808≤n∧n≤9223372036854775807) (hf:F64 f) (ht:t.length≤140737488355328) (d:Nat) :
  ValIn S w (d+1) (.mk k n f t [] []) #[.int .i64 k,.int .i64 n,.float .f64 f,.string ⟨t.toArray⟩,.slice none 0 0,.slice none 0 0] :=
 ⟨_,_,rfl,hk,hn,hf,ht,⟨by simp[VT.names],(fun s hs=>nomatch hs),.inl ⟨rfl,_,_,rfl⟩⟩,by simp[VT.items],.inl ⟨rfl,_,_,rfl⟩⟩
/-- what the codec's reader of values leaves -/
def RvPost (b:Nat) (s:ByteArray) (f:Nat) (w:World) (r:Option (VT × Nat × List UInt8)) (e:Ending) (w':World):Prop :=
 match r with
 | some v=>∃ cs,e=.returned (.agg cs)∧ValIn (fun g=>w.heap.size≤g) w' f v.1 cs∧w'.heap[b]?=some (.cells #[.string s,.int .i64 (s.size - v.2.2.length:Nat),.int .i64 (v.2.1:Nat)] 187 (0,0))∧Fr [b] w w'
 | none=>(∃ x,x≠0∧e=.panicked [{ v:=.iface 33 (.int .i64 x),recovered:=false }])∧Fr [b] w w'
end
section
open Go.RowKit
theorem Fr.fewer {b P:Nat} {w w':World} (h:Fr [b,P] w w') (hP:w.heap.size≤P):Fr [b] w w' :=
 ⟨h.os,h.tape,h.output,h.size,fun i hi hn=>h.block i hi (by simp at hn ⊢;omega)⟩
theorem RdB.kept {b:Nat} {s:ByteArray} {k q:Nat} {l:List Nat} {w w':World} (h:RdB b s k q w) (hf:Fr l w w') (hn:b ∉ l):RdB b s k q w':=hf.at h hn
theorem cvalR_k2 (s:ByteArray) (hs:s.size≤100000000) (b k q f:Nat) (hf:f≤11) (hq:q<200) (hk:k<s.size) (hc:(s[k]'hk).toNat=2) (w:World) (hb:RdB b s k q w) :
  Calls Tryz.prog 127 #[.pointer (some ⟨b,0,none⟩),.int .i64 ((12 - f:Nat):Int)] w (RvPost b s (f+1) w (rdV (f+1) q (s.data.toList.drop k))):=by
 have hL:s.data.toList.length=s.size:=by simp
 have hg:s.data.toList.getD k 0=s[k]'hk:=by simp[List.getD,hk];rfl
 have hR:=rdV_step (f:=f) (p:=q) (s.data.toList.getD k 0) (s.data.toList.drop (k+1)) hq;rw[←drop_byte (by rw[hL];exact hk),hg,hc]at hR;rw[if_neg (by decide),if_pos rfl]at hR;have hbd:∀ r,rdInt (s.data.toList.drop (k+1))=some r → -9223372036854775808≤r.1∧r.1≤9223372036854775807:=fun r h=>by
  have:=rdV_dec 1 0 (2::s.data.toList.drop (k+1)) (.mk 2 r.1 0 [] [] []) 1 r.2 (by rw[rdV_step _ _ (by omega),if_neg (by decide),if_pos (by decide),h]);have h2:=this.2.1;rw[inV]at h2;exact h2.2.1
 have HC:=fun w hb=>cintR_any s hs b (k+1) (q+1) (by omega) w hb
 have hsf:∀ (a:Addr) (x:Nat) (m:Mode) (w:World),(store a (.float .f64 x) m).run Tryz.prog w=stored Tryz.prog w a (.float .f64 x) m:=fun a x m w=>run_store _ w a _ m rfl
 have HB:=zh (fun w hb=>(show Calls Tryz.prog 160 #[.pointer (some ⟨b,0,none⟩),.int .i64 ((12 - f:Nat):Int)] w (fun e w'=>e=.returned (.tuple #[])∧RdB b s k (q+1) w'∧Fr [b] w w') from by
  have h:=cbegin_any s b k q (12 - f) (by omega) (by omega) w hb;simp only[if_pos (show 12 - f≤12∧q<200 by omega)]at h;exact h))
 have HY:=zh (fun w hb=>(show Calls Tryz.prog 124 #[.pointer (some ⟨b,0,none⟩)] w (fun e w'=>e=.returned (.int .u8 2)∧RdB b s (k+1) (q+1) w'∧Fr [b] w w') from by
  have h:=cbyte_yes s (by omega) b k (q+1) hk w hb;rw[hc]at h;exact h))
 have hbl:=hb.lt;have hb0:RdB b s k q (w.alloc (.cells #[.int .i64 0,.int .i64 0,.float .f64 0,.string ⟨#[]⟩,.slice none 0 0,.slice none 0 0] 28)):=(Lib.alloc_old w _ b hbl).trans hb;have hf0:=(Fr.refl [b] w).alloc (.cells #[.int .i64 0,.int .i64 0,.float .f64 0,.string ⟨#[]⟩,.slice none 0 0,.slice none 0 0] 28);have hg0:(w.alloc (.cells #[.int .i64 0,.int .i64 0,.float .f64 0,.string ⟨#[]⟩,.slice none 0 0,.slice none 0 0] 28)).heap[w.heap.size]?=some (.cells #[.int .i64 0,.int .i64 0,.float .f64 0,.string ⟨#[]⟩,.slice none 0 0,.slice none 0 0] 28 (0,0)):=heap_alloc_new w _;generalize hgh:w.heap.size=P at *;have HP:=zh hgh;clear hgh;have hbP:b≠P:=by omega
 have hnP:P ∉ [b]:=by simp;omega
 have wk:IntKind.i64.wrap 2=2:=by decide
 rw[hR];clear hR hg hL hc;generalize rdInt (s.data.toList.drop (k+1))=r at *;cases r with
 | none =>
  have HC:=zh HC;go_in;go_wp2_with fail
  rw[HP.out];generalize w.alloc (.cells #[.int .i64 0,.int .i64 0,.float .f64 0,.string ⟨#[]⟩,.slice none 0 0,.slice none 0 0] 28)=W0 at *;refine(HB.out _ hb0).mono ?_;rintro e w1 ⟨rfl,hb1,hf1⟩;have hg1:=hf1.at hg0 hnP;have A1:=hf0.trans hf1;clear hb0 hg0 hf1 hf0;go_wp2_with fail
  refine(HY.out _ hb1).mono ?_;rintro e w2 ⟨rfl,hb2,hf2⟩;have hg2:=hf2.at hg1 hnP;have A2:=(A1.trans hf2).mono (m:=[b,P]) (by simp);clear hb1 hg1 hf2 A1;have c0:w2.cell? ⟨P,0,none⟩=some (.int .i64 0):=by rw[zc hg2];rfl
  have z0:w2.frozen? ⟨P,0,none⟩=false:=Lib.frozen_of_heap hg2 0;have F3:=(Fr.refl [P] w2).setCell ⟨P,0,none⟩ (by simp) (.int .i64 2);have hg3:(w2.setCell ⟨P,0,none⟩ (.int .i64 2)).heap[P]?=some (.cells #[.int .i64 2,.int .i64 0,.float .f64 0,.string ⟨#[]⟩,.slice none 0 0,.slice none 0 0] 28 (0,0)):=heap_setN hg2 0 _;have hb3:=hb2.kept F3 (by simpa using hbP);have A3:=A2.trans (F3.mono (by simp));go_wp2_with fail
  clear c0 z0;generalize w2.setCell ⟨P,0,none⟩ (.int .i64 2)=w3 at *;have c0:w3.cell? ⟨P,0,none⟩=some (.int .i64 2):=by rw[zc hg3];rfl
  go_wp2_with fail
  refine(HC.out _ hb3).mono ?_;rintro e w4 ⟨⟨x,hx,rfl⟩,hf4⟩;go_wp2_with fail
  exact⟨rfl,⟨x,hx,rfl⟩,(A3.trans (hf4.mono (by simp))).fewer (Nat.le_of_eq HP.out)⟩
 | some r =>
  obtain⟨x,l⟩:=r;have hbx:=hbd _ rfl;dsimp only at hbx;have HC:=zh HC;clear hbd;go_in;go_wp2_with fail
  rw[HP.out];generalize w.alloc (.cells #[.int .i64 0,.int .i64 0,.float .f64 0,.string ⟨#[]⟩,.slice none 0 0,.slice none 0 0] 28)=W0 at *;refine(HB.out _ hb0).mono ?_;rintro e w1 ⟨rfl,hb1,hf1⟩;have hg1:=hf1.at hg0 hnP;have A1:=hf0.trans hf1;clear hb0 hg0 hf1 hf0;go_wp2_with fail
  refine(HY.out _ hb1).mono ?_;rintro e w2 ⟨rfl,hb2,hf2⟩;have hg2:=hf2.at hg1 hnP;have A2:=(A1.trans hf2).mono (m:=[b,P]) (by simp);clear hb1 hg1 hf2 A1;have c0:w2.cell? ⟨P,0,none⟩=some (.int .i64 0):=by rw[zc hg2];rfl
  have z0:w2.frozen? ⟨P,0,none⟩=false:=Lib.frozen_of_heap hg2 0;have F3:=(Fr.refl [P] w2).setCell ⟨P,0,none⟩ (by simp) (.int .i64 2);have hg3:(w2.setCell ⟨P,0,none⟩ (.int .i64 2)).heap[P]?=some (.cells #[.int .i64 2,.int .i64 0,.float .f64 0,.string ⟨#[]⟩,.slice none 0 0,.slice none 0 0] 28 (0,0)):=heap_setN hg2 0 _;have hb3:=hb2.kept F3 (by simpa using hbP);have A3:=A2.trans (F3.mono (by simp));go_wp2_with fail
  clear c0 z0;generalize w2.setCell ⟨P,0,none⟩ (.int .i64 2)=w3 at *;have c0:w3.cell? ⟨P,0,none⟩=some (.int .i64 2):=by rw[zc hg3];rfl
  go_wp2_with fail
  refine(HC.out _ hb3).mono ?_;rintro e w4 ⟨rfl,hb4,hf4⟩;dsimp only at hb4 ⊢
  have hg4:=hf4.at hg3 hnP;have A4:=A3.trans (hf4.mono (by simp));clear c0 hb3 hg3 hf4 A3 F3 hb2 hg2 A2;have c1:w4.cell? ⟨P,1,none⟩=some (.int .i64 0):=by rw[zc hg4];rfl
  have z1:w4.frozen? ⟨P,1,none⟩=false:=Lib.frozen_of_heap hg4 1;have F5:=(Fr.refl [P] w4).setCell ⟨P,1,none⟩ (by simp) (.int .i64 x);have hg5:(w4.setCell ⟨P,1,none⟩ (.int .i64 x)).heap[P]?=some (.cells #[.int .i64 2,.int .i64 x,.float .f64 0,.string ⟨#[]⟩,.slice none 0 0,.slice none 0 0] 28 (0,0)):=heap_setN hg4 1 _;have hb5:=hb4.kept F5 (by simpa using hbP);have A5:=A4.trans (F5.mono (by simp));go_upto_region 22 with (fail)
  clear c1 z1;generalize w4.setCell ⟨P,1,none⟩ (.int .i64 x)=w5 at *;have e0:w5.cell? ⟨P,0,none⟩=some (.int .i64 2):=by rw[zc hg5];rfl
  have z0:w5.frozen? ⟨P,0,none⟩=false:=Lib.frozen_of_heap hg5 0;have e1:w5.cell? ⟨P,1,none⟩=some (.int .i64 x):=by rw[zc hg5];rfl
  have z1:w5.frozen? ⟨P,1,none⟩=false:=Lib.frozen_of_heap hg5 1;have e2:w5.cell? ⟨P,2,none⟩=some (.float .f64 0):=by rw[zc hg5];rfl
  have z2:w5.frozen? ⟨P,2,none⟩=false:=Lib.frozen_of_heap hg5 2;have e3:w5.cell? ⟨P,3,none⟩=some (.string ⟨#[]⟩):=by rw[zc hg5];rfl
  have z3:w5.frozen? ⟨P,3,none⟩=false:=Lib.frozen_of_heap hg5 3;have e4:w5.cell? ⟨P,4,none⟩=some (.slice none 0 0):=by rw[zc hg5];rfl
  have z4:w5.frozen? ⟨P,4,none⟩=false:=Lib.frozen_of_heap hg5 4;have e5:w5.cell? ⟨P,5,none⟩=some (.slice none 0 0):=by rw[zc hg5];rfl
  have z5:w5.frozen? ⟨P,5,none⟩=false:=Lib.frozen_of_heap hg5 5;go_wp2_with fail
  have hgF:(((((((w5).setCell ⟨P,0,none⟩ (.int .i64 2)).setCell ⟨P,1,none⟩ (.int .i64 x)).setCell ⟨P,2,none⟩ (.float .f64 0)).setCell ⟨P,3,none⟩ (.string ⟨#[]⟩)).setCell ⟨P,4,none⟩ (.slice none 0 0)).setCell ⟨P,5,none⟩ (.slice none 0 0)).heap[P]?=some (.cells #[.int .i64 2,.int .i64 x,.float .f64 0,.string ⟨#[]⟩,.slice none 0 0,.slice none 0 0] 28 (0,0)):=heap_setN (heap_setN (heap_setN (heap_setN (heap_setN (heap_setN hg5 0 _) 1 _) 2 _) 3 _) 4 _) 5 _;have FF:=((((((Fr.refl [P] w5).setCell ⟨P,0,none⟩ (by simp) (.int .i64 2)).setCell ⟨P,1,none⟩ (by simp) (.int .i64 x)).setCell ⟨P,2,none⟩ (by simp) (.float .f64 0)).setCell ⟨P,3,none⟩ (by simp) (.string ⟨#[]⟩)).setCell ⟨P,4,none⟩ (by simp) (.slice none 0 0)).setCell ⟨P,5,none⟩ (by simp) (.slice none 0 0);clear e0 z0 e1 z1 e2 z2 e3 z3 e4 z4 e5 z5;generalize ((((((w5).setCell ⟨P,0,none⟩ (.int .i64 2)).setCell ⟨P,1,none⟩ (.int .i64 x)).setCell ⟨P,2,none⟩ (.float .f64 0)).setCell ⟨P,3,none⟩ (.string ⟨#[]⟩)).setCell ⟨P,4,none⟩ (.slice none 0 0)).setCell ⟨P,5,none⟩ (.slice none 0 0)=X at *;obtain⟨y0,y1,y2,y3,y4,y5⟩:=cells6 hgF;have hrX:=hb5.kept FF (by simpa using hbP);have hff:=(A5.trans (FF.mono (m:=[b,P]) (by simp))).fewer (Nat.le_of_eq HP.out);refine bodyPost_ret (v:=.agg #[.int .i64 2,.int .i64 x,.float .f64 0,.string ⟨#[]⟩,.slice none 0 0,.slice none 0 0]) (by simp[results,Tryz.results127,go_sem,y0,y1,y2,y3,y4,y5]) rfl ?_;exact⟨_,rfl,ValIn.leaf (t:=[]) (by omega) hbx (by unfold F64;omega) (by simp) f,hrX,hff⟩
theorem cvalR_k3 (s:ByteArray) (hs:s.size≤100000000) (b k q f:Nat) (hf:f≤11) (hq:q<200) (hk:k<s.size) (hc:(s[k]'hk).toNat=3) (w:World) (hb:RdB b s k q w) :
  Calls Tryz.prog 127 #[.pointer (some ⟨b,0,none⟩),.int .i64 ((12 - f:Nat):Int)] w (RvPost b s (f+1) w (rdV (f+1) q (s.data.toList.drop k))):=by
 have hL:s.data.toList.length=s.size:=by simp
 have hg:s.data.toList.getD k 0=s[k]'hk:=by simp[List.getD,hk];rfl
 have hR:=rdV_step (f:=f) (p:=q) (s.data.toList.getD k 0) (s.data.toList.drop (k+1)) hq;rw[←drop_byte (by rw[hL];exact hk),hg,hc]at hR;rw[if_neg (by decide),if_neg (by decide),if_pos rfl]at hR;have hbd:∀ r,rdFlt (s.data.toList.drop (k+1))=some r→F64 r.1:=fun r h=>by
  have:=rdV_dec 1 0 (3::s.data.toList.drop (k+1)) (.mk 3 0 r.1 [] [] []) 1 r.2 (by rw[rdV_step _ _ (by omega),if_neg (by decide),if_neg (by decide),if_pos (by decide),h]);have h2:=this.2.1;rw[inV]at h2;exact h2.2.2.1
 have HC:=fun w hb=>cfltR_any s hs b (k+1) (q+1) (by omega) w hb
 have hsf:∀ (a:Addr) (x:Nat) (m:Mode) (w:World),(store a (.float .f64 x) m).run Tryz.prog w=stored Tryz.prog w a (.float .f64 x) m:=fun a x m w=>run_store _ w a _ m rfl
 have HB:=zh (fun w hb=>(show Calls Tryz.prog 160 #[.pointer (some ⟨b,0,none⟩),.int .i64 ((12 - f:Nat):Int)] w (fun e w'=>e=.returned (.tuple #[])∧RdB b s k (q+1) w'∧Fr [b] w w') from by
  have h:=cbegin_any s b k q (12 - f) (by omega) (by omega) w hb;simp only[if_pos (show 12 - f≤12∧q<200 by omega)]at h;exact h))
 have HY:=zh (fun w hb=>(show Calls Tryz.prog 124 #[.pointer (some ⟨b,0,none⟩)] w (fun e w'=>e=.returned (.int .u8 3)∧RdB b s (k+1) (q+1) w'∧Fr [b] w w') from by
  have h:=cbyte_yes s (by omega) b k (q+1) hk w hb;rw[hc]at h;exact h))
 have hbl:=hb.lt;have hb0:RdB b s k q (w.alloc (.cells #[.int .i64 0,.int .i64 0,.float .f64 0,.string ⟨#[]⟩,.slice none 0 0,.slice none 0 0] 28)):=(Lib.alloc_old w _ b hbl).trans hb;have hf0:=(Fr.refl [b] w).alloc (.cells #[.int .i64 0,.int .i64 0,.float .f64 0,.string ⟨#[]⟩,.slice none 0 0,.slice none 0 0] 28);have hg0:(w.alloc (.cells #[.int .i64 0,.int .i64 0,.float .f64 0,.string ⟨#[]⟩,.slice none 0 0,.slice none 0 0] 28)).heap[w.heap.size]?=some (.cells #[.int .i64 0,.int .i64 0,.float .f64 0,.string ⟨#[]⟩,.slice none 0 0,.slice none 0 0] 28 (0,0)):=heap_alloc_new w _;generalize hgh:w.heap.size=P at *;have HP:=zh hgh;clear hgh;have hbP:b≠P:=by omega
 have hnP:P ∉ [b]:=by simp;omega
 have wk:IntKind.i64.wrap 3=3:=by decide
 rw[hR];clear hR hg hL hc;generalize rdFlt (s.data.toList.drop (k+1))=r at *;cases r with
 | none =>
  have HC:=zh HC;go_in;go_wp2_with fail
  rw[HP.out];generalize w.alloc (.cells #[.int .i64 0,.int .i64 0,.float .f64 0,.string ⟨#[]⟩,.slice none 0 0,.slice none 0 0] 28)=W0 at *;refine(HB.out _ hb0).mono ?_;rintro e w1 ⟨rfl,hb1,hf1⟩;have hg1:=hf1.at hg0 hnP;have A1:=hf0.trans hf1;clear hb0 hg0 hf1 hf0;go_wp2_with fail
  refine(HY.out _ hb1).mono ?_;rintro e w2 ⟨rfl,hb2,hf2⟩;have hg2:=hf2.at hg1 hnP;have A2:=(A1.trans hf2).mono (m:=[b,P]) (by simp);clear hb1 hg1 hf2 A1;have c0:w2.cell? ⟨P,0,none⟩=some (.int .i64 0):=by rw[zc hg2];rfl
  have z0:w2.frozen? ⟨P,0,none⟩=false:=Lib.frozen_of_heap hg2 0;have F3:=(Fr.refl [P] w2).setCell ⟨P,0,none⟩ (by simp) (.int .i64 3);have hg3:(w2.setCell ⟨P,0,none⟩ (.int .i64 3)).heap[P]?=some (.cells #[.int .i64 3,.int .i64 0,.float .f64 0,.string ⟨#[]⟩,.slice none 0 0,.slice none 0 0] 28 (0,0)):=heap_setN hg2 0 _;have hb3:=hb2.kept F3 (by simpa using hbP);have A3:=A2.trans (F3.mono (by simp));go_wp2_with fail
  clear c0 z0;generalize w2.setCell ⟨P,0,none⟩ (.int .i64 3)=w3 at *;have c0:w3.cell? ⟨P,0,none⟩=some (.int .i64 3):=by rw[zc hg3];rfl
  go_wp2_with fail
  refine(HC.out _ hb3).mono ?_;rintro e w4 ⟨⟨x,hx,rfl⟩,hf4⟩;go_wp2_with fail
  exact⟨rfl,⟨x,hx,rfl⟩,(A3.trans (hf4.mono (by simp))).fewer (Nat.le_of_eq HP.out)⟩
 | some r =>
  obtain⟨x,l⟩:=r;have hbx:=hbd _ rfl;dsimp only at hbx;have HC:=zh HC;clear hbd;go_in;go_wp2_with fail
  rw[HP.out];generalize w.alloc (.cells #[.int .i64 0,.int .i64 0,.float .f64 0,.string ⟨#[]⟩,.slice none 0 0,.slice none 0 0] 28)=W0 at *;refine(HB.out _ hb0).mono ?_;rintro e w1 ⟨rfl,hb1,hf1⟩;have hg1:=hf1.at hg0 hnP;have A1:=hf0.trans hf1;clear hb0 hg0 hf1 hf0;go_wp2_with fail
  refine(HY.out _ hb1).mono ?_;rintro e w2 ⟨rfl,hb2,hf2⟩;have hg2:=hf2.at hg1 hnP;have A2:=(A1.trans hf2).mono (m:=[b,P]) (by simp);clear hb1 hg1 hf2 A1;have c0:w2.cell? ⟨P,0,none⟩=some (.int .i64 0):=by rw[zc hg2];rfl
  have z0:w2.frozen? ⟨P,0,none⟩=false:=Lib.frozen_of_heap hg2 0;have F3:=(Fr.refl [P] w2).setCell ⟨P,0,none⟩ (by simp) (.int .i64 3);have hg3:(w2.setCell ⟨P,0,none⟩ (.int .i64 3)).heap[P]?=some (.cells #[.int .i64 3,.int .i64 0,.float .f64 0,.string ⟨#[]⟩,.slice none 0 0,.slice none 0 0] 28 (0,0)):=heap_setN hg2 0 _;have hb3:=hb2.kept F3 (by simpa using hbP);have A3:=A2.trans (F3.mono (by simp));go_wp2_with fail
  clear c0 z0;generalize w2.setCell ⟨P,0,none⟩ (.int .i64 3)=w3 at *;have c0:w3.cell? ⟨P,0,none⟩=some (.int .i64 3):=by rw[zc hg3];rfl
  go_wp2_with fail
  refine(HC.out _ hb3).mono ?_;rintro e w4 ⟨rfl,hb4,hf4⟩;dsimp only at hb4 ⊢
  have hg4:=hf4.at hg3 hnP;have A4:=A3.trans (hf4.mono (by simp));clear c0 hb3 hg3 hf4 A3 F3 hb2 hg2 A2;have c1:w4.cell? ⟨P,2,none⟩=some (.float .f64 0):=by rw[zc hg4];rfl
  have z1:w4.frozen? ⟨P,2,none⟩=false:=Lib.frozen_of_heap hg4 2;have F5:=(Fr.refl [P] w4).setCell ⟨P,2,none⟩ (by simp) (.float .f64 x);have hg5:(w4.setCell ⟨P,2,none⟩ (.float .f64 x)).heap[P]?=some (.cells #[.int .i64 3,.int .i64 0,.float .f64 x,.string ⟨#[]⟩,.slice none 0 0,.slice none 0 0] 28 (0,0)):=heap_setN hg4 2 _;have hb5:=hb4.kept F5 (by simpa using hbP);have A5:=A4.trans (F5.mono (by simp));go_upto_region 22 with (fail)
  clear c1 z1;generalize w4.setCell ⟨P,2,none⟩ (.float .f64 x)=w5 at *;have e0:w5.cell? ⟨P,0,none⟩=some (.int .i64 3):=by rw[zc hg5];rfl
  have z0:w5.frozen? ⟨P,0,none⟩=false:=Lib.frozen_of_heap hg5 0;have e1:w5.cell? ⟨P,1,none⟩=some (.int .i64 0):=by rw[zc hg5];rfl
  have z1:w5.frozen? ⟨P,1,none⟩=false:=Lib.frozen_of_heap hg5 1;have e2:w5.cell? ⟨P,2,none⟩=some (.float .f64 x):=by rw[zc hg5];rfl
  have z2:w5.frozen? ⟨P,2,none⟩=false:=Lib.frozen_of_heap hg5 2;have e3:w5.cell? ⟨P,3,none⟩=some (.string ⟨#[]⟩):=by rw[zc hg5];rfl
  have z3:w5.frozen? ⟨P,3,none⟩=false:=Lib.frozen_of_heap hg5 3;have e4:w5.cell? ⟨P,4,none⟩=some (.slice none 0 0):=by rw[zc hg5];rfl
  have z4:w5.frozen? ⟨P,4,none⟩=false:=Lib.frozen_of_heap hg5 4;have e5:w5.cell? ⟨P,5,none⟩=some (.slice none 0 0):=by rw[zc hg5];rfl
  have z5:w5.frozen? ⟨P,5,none⟩=false:=Lib.frozen_of_heap hg5 5;go_wp2_with fail
  have hgF:(((((((w5).setCell ⟨P,0,none⟩ (.int .i64 3)).setCell ⟨P,1,none⟩ (.int .i64 0)).setCell ⟨P,2,none⟩ (.float .f64 x)).setCell ⟨P,3,none⟩ (.string ⟨#[]⟩)).setCell ⟨P,4,none⟩ (.slice none 0 0)).setCell ⟨P,5,none⟩ (.slice none 0 0)).heap[P]?=some (.cells #[.int .i64 3,.int .i64 0,.float .f64 x,.string ⟨#[]⟩,.slice none 0 0,.slice none 0 0] 28 (0,0)):=heap_setN (heap_setN (heap_setN (heap_setN (heap_setN (heap_setN hg5 0 _) 1 _) 2 _) 3 _) 4 _) 5 _;have FF:=((((((Fr.refl [P] w5).setCell ⟨P,0,none⟩ (by simp) (.int .i64 3)).setCell ⟨P,1,none⟩ (by simp) (.int .i64 0)).setCell ⟨P,2,none⟩ (by simp) (.float .f64 x)).setCell ⟨P,3,none⟩ (by simp) (.string ⟨#[]⟩)).setCell ⟨P,4,none⟩ (by simp) (.slice none 0 0)).setCell ⟨P,5,none⟩ (by simp) (.slice none 0 0);clear e0 z0 e1 z1 e2 z2 e3 z3 e4 z4 e5 z5;generalize ((((((w5).setCell ⟨P,0,none⟩ (.int .i64 3)).setCell ⟨P,1,none⟩ (.int .i64 0)).setCell ⟨P,2,none⟩ (.float .f64 x)).setCell ⟨P,3,none⟩ (.string ⟨#[]⟩)).setCell ⟨P,4,none⟩ (.slice none 0 0)).setCell ⟨P,5,none⟩ (.slice none 0 0)=X at *;obtain⟨y0,y1,y2,y3,y4,y5⟩:=cells6 hgF;have hrX:=hb5.kept FF (by simpa using hbP);have hff:=(A5.trans (FF.mono (m:=[b,P]) (by simp))).fewer (Nat.le_of_eq HP.out);refine bodyPost_ret (v:=.agg #[.int .i64 3,.int .i64 0,.float .f64 x,.string ⟨#[]⟩,.slice none 0 0,.slice none 0 0]) (by simp[results,Tryz.results127,go_sem,y0,y1,y2,y3,y4,y5]) rfl ?_;exact⟨_,rfl,ValIn.leaf (t:=[]) (by omega) (by omega) hbx (by simp) f,hrX,hff⟩
theorem cvalR_k4 (s:ByteArray) (hs:s.size≤100000000) (b k q f:Nat) (hf:f≤11) (hq:q<200) (hk:k<s.size) (hc:(s[k]'hk).toNat=4) (w:World) (hb:RdB b s k q w) :
  Calls Tryz.prog 127 #[.pointer (some ⟨b,0,none⟩),.int .i64 ((12 - f:Nat):Int)] w (RvPost b s (f+1) w (rdV (f+1) q (s.data.toList.drop k))):=by
 have hL:s.data.toList.length=s.size:=by simp
 have hg:s.data.toList.getD k 0=s[k]'hk:=by simp[List.getD,hk];rfl
 have hR:=rdV_step (f:=f) (p:=q) (s.data.toList.getD k 0) (s.data.toList.drop (k+1)) hq;rw[←drop_byte (by rw[hL];exact hk),hg,hc]at hR;rw[if_neg (by decide),if_neg (by decide),if_neg (by decide),if_pos rfl]at hR;have hbd:∀ r,rdStr 200 (s.data.toList.drop (k+1))=some r→r.1.length≤200:=fun r h=>(rdStr_dec (s:=r.1) (r:=r.2) h).2
 have HC:=fun w hb=>cstrR_any s hs b (k+1) (q+1) 200 (by omega) (by omega) w hb
 have hsf:∀ (a:Addr) (x:Nat) (m:Mode) (w:World),(store a (.float .f64 x) m).run Tryz.prog w=stored Tryz.prog w a (.float .f64 x) m:=fun a x m w=>run_store _ w a _ m rfl
 have HB:=zh (fun w hb=>(show Calls Tryz.prog 160 #[.pointer (some ⟨b,0,none⟩),.int .i64 ((12 - f:Nat):Int)] w (fun e w'=>e=.returned (.tuple #[])∧RdB b s k (q+1) w'∧Fr [b] w w') from by
  have h:=cbegin_any s b k q (12 - f) (by omega) (by omega) w hb;simp only[if_pos (show 12 - f≤12∧q<200 by omega)]at h;exact h))
 have HY:=zh (fun w hb=>(show Calls Tryz.prog 124 #[.pointer (some ⟨b,0,none⟩)] w (fun e w'=>e=.returned (.int .u8 4)∧RdB b s (k+1) (q+1) w'∧Fr [b] w w') from by
  have h:=cbyte_yes s (by omega) b k (q+1) hk w hb;rw[hc]at h;exact h))
 have hbl:=hb.lt;have hb0:RdB b s k q (w.alloc (.cells #[.int .i64 0,.int .i64 0,.float .f64 0,.string ⟨#[]⟩,.slice none 0 0,.slice none 0 0] 28)):=(Lib.alloc_old w _ b hbl).trans hb;have hf0:=(Fr.refl [b] w).alloc (.cells #[.int .i64 0,.int .i64 0,.float .f64 0,.string ⟨#[]⟩,.slice none 0 0,.slice none 0 0] 28);have hg0:(w.alloc (.cells #[.int .i64 0,.int .i64 0,.float .f64 0,.string ⟨#[]⟩,.slice none 0 0,.slice none 0 0] 28)).heap[w.heap.size]?=some (.cells #[.int .i64 0,.int .i64 0,.float .f64 0,.string ⟨#[]⟩,.slice none 0 0,.slice none 0 0] 28 (0,0)):=heap_alloc_new w _;generalize hgh:w.heap.size=P at *;have HP:=zh hgh;clear hgh;have hbP:b≠P:=by omega
 have hnP:P ∉ [b]:=by simp;omega
 have wk:IntKind.i64.wrap 4=4:=by decide
 rw[hR];clear hR hg hL hc;generalize rdStr 200 (s.data.toList.drop (k+1))=r at *;cases r with
 | none =>
  have HC:=zh HC;go_in;go_wp2_with fail
  rw[HP.out];generalize w.alloc (.cells #[.int .i64 0,.int .i64 0,.float .f64 0,.string ⟨#[]⟩,.slice none 0 0,.slice none 0 0] 28)=W0 at *;refine(HB.out _ hb0).mono ?_;rintro e w1 ⟨rfl,hb1,hf1⟩;have hg1:=hf1.at hg0 hnP;have A1:=hf0.trans hf1;clear hb0 hg0 hf1 hf0;go_wp2_with fail
  refine(HY.out _ hb1).mono ?_;rintro e w2 ⟨rfl,hb2,hf2⟩;have hg2:=hf2.at hg1 hnP;have A2:=(A1.trans hf2).mono (m:=[b,P]) (by simp);clear hb1 hg1 hf2 A1;have c0:w2.cell? ⟨P,0,none⟩=some (.int .i64 0):=by rw[zc hg2];rfl
  have z0:w2.frozen? ⟨P,0,none⟩=false:=Lib.frozen_of_heap hg2 0;have F3:=(Fr.refl [P] w2).setCell ⟨P,0,none⟩ (by simp) (.int .i64 4);have hg3:(w2.setCell ⟨P,0,none⟩ (.int .i64 4)).heap[P]?=some (.cells #[.int .i64 4,.int .i64 0,.float .f64 0,.string ⟨#[]⟩,.slice none 0 0,.slice none 0 0] 28 (0,0)):=heap_setN hg2 0 _;have hb3:=hb2.kept F3 (by simpa using hbP);have A3:=A2.trans (F3.mono (by simp));go_wp2_with fail
  clear c0 z0;generalize w2.setCell ⟨P,0,none⟩ (.int .i64 4)=w3 at *;have c0:w3.cell? ⟨P,0,none⟩=some (.int .i64 4):=by rw[zc hg3];rfl
  go_wp2_with fail
  refine(HC.out _ hb3).mono ?_;rintro e w4 ⟨⟨x,hx,rfl⟩,hf4⟩;go_wp2_with fail
  exact⟨rfl,⟨x,hx,rfl⟩,(A3.trans (hf4.mono (by simp))).fewer (Nat.le_of_eq HP.out)⟩
 | some r =>
  obtain⟨x,l⟩:=r;have hbx:=hbd _ rfl;dsimp only at hbx;have HC:=zh HC;clear hbd;go_in;go_wp2_with fail
  rw[HP.out];generalize w.alloc (.cells #[.int .i64 0,.int .i64 0,.float .f64 0,.string ⟨#[]⟩,.slice none 0 0,.slice none 0 0] 28)=W0 at *;refine(HB.out _ hb0).mono ?_;rintro e w1 ⟨rfl,hb1,hf1⟩;have hg1:=hf1.at hg0 hnP;have A1:=hf0.trans hf1;clear hb0 hg0 hf1 hf0;go_wp2_with fail
  refine(HY.out _ hb1).mono ?_;rintro e w2 ⟨rfl,hb2,hf2⟩;have hg2:=hf2.at hg1 hnP;have A2:=(A1.trans hf2).mono (m:=[b,P]) (by simp);clear hb1 hg1 hf2 A1;have c0:w2.cell? ⟨P,0,none⟩=some (.int .i64 0):=by rw[zc hg2];rfl
  have z0:w2.frozen? ⟨P,0,none⟩=false:=Lib.frozen_of_heap hg2 0;have F3:=(Fr.refl [P] w2).setCell ⟨P,0,none⟩ (by simp) (.int .i64 4);have hg3:(w2.setCell ⟨P,0,none⟩ (.int .i64 4)).heap[P]?=some (.cells #[.int .i64 4,.int .i64 0,.float .f64 0,.string ⟨#[]⟩,.slice none 0 0,.slice none 0 0] 28 (0,0)):=heap_setN hg2 0 _;have hb3:=hb2.kept F3 (by simpa using hbP);have A3:=A2.trans (F3.mono (by simp));go_wp2_with fail
  clear c0 z0;generalize w2.setCell ⟨P,0,none⟩ (.int .i64 4)=w3 at *;have c0:w3.cell? ⟨P,0,none⟩=some (.int .i64 4):=by rw[zc hg3];rfl
  go_wp2_with fail
  refine(HC.out _ hb3).mono ?_;rintro e w4 ⟨rfl,hb4,hf4⟩;dsimp only at hb4 ⊢
  have hg4:=hf4.at hg3 hnP;have A4:=A3.trans (hf4.mono (by simp));clear c0 hb3 hg3 hf4 A3 F3 hb2 hg2 A2;have c1:w4.cell? ⟨P,3,none⟩=some (.string ⟨#[]⟩):=by rw[zc hg4];rfl
  have z1:w4.frozen? ⟨P,3,none⟩=false:=Lib.frozen_of_heap hg4 3;have F5:=(Fr.refl [P] w4).setCell ⟨P,3,none⟩ (by simp) (.string ⟨x.toArray⟩);have hg5:(w4.setCell ⟨P,3,none⟩ (.string ⟨x.toArray⟩)).heap[P]?=some (.cells #[.int .i64 4,.int .i64 0,.float .f64 0,.string ⟨x.toArray⟩,.slice none 0 0,.slice none 0 0] 28 (0,0)):=heap_setN hg4 3 _;have hb5:=hb4.kept F5 (by simpa using hbP);have A5:=A4.trans (F5.mono (by simp));go_upto_region 22 with (fail)
  clear c1 z1;generalize w4.setCell ⟨P,3,none⟩ (.string ⟨x.toArray⟩)=w5 at *;have e0:w5.cell? ⟨P,0,none⟩=some (.int .i64 4):=by rw[zc hg5];rfl
  have z0:w5.frozen? ⟨P,0,none⟩=false:=Lib.frozen_of_heap hg5 0;have e1:w5.cell? ⟨P,1,none⟩=some (.int .i64 0):=by rw[zc hg5];rfl
  have z1:w5.frozen? ⟨P,1,none⟩=false:=Lib.frozen_of_heap hg5 1;have e2:w5.cell? ⟨P,2,none⟩=some (.float .f64 0):=by rw[zc hg5];rfl
  have z2:w5.frozen? ⟨P,2,none⟩=false:=Lib.frozen_of_heap hg5 2;have e3:w5.cell? ⟨P,3,none⟩=some (.string ⟨x.toArray⟩):=by rw[zc hg5];rfl
  have z3:w5.frozen? ⟨P,3,none⟩=false:=Lib.frozen_of_heap hg5 3;have e4:w5.cell? ⟨P,4,none⟩=some (.slice none 0 0):=by rw[zc hg5];rfl
  have z4:w5.frozen? ⟨P,4,none⟩=false:=Lib.frozen_of_heap hg5 4;have e5:w5.cell? ⟨P,5,none⟩=some (.slice none 0 0):=by rw[zc hg5];rfl
  have z5:w5.frozen? ⟨P,5,none⟩=false:=Lib.frozen_of_heap hg5 5;go_wp2_with fail
  have hgF:(((((((w5).setCell ⟨P,0,none⟩ (.int .i64 4)).setCell ⟨P,1,none⟩ (.int .i64 0)).setCell ⟨P,2,none⟩ (.float .f64 0)).setCell ⟨P,3,none⟩ (.string ⟨x.toArray⟩)).setCell ⟨P,4,none⟩ (.slice none 0 0)).setCell ⟨P,5,none⟩ (.slice none 0 0)).heap[P]?=some (.cells #[.int .i64 4,.int .i64 0,.float .f64 0,.string ⟨x.toArray⟩,.slice none 0 0,.slice none 0 0] 28 (0,0)):=heap_setN (heap_setN (heap_setN (heap_setN (heap_setN (heap_setN hg5 0 _) 1 _) 2 _) 3 _) 4 _) 5 _;have FF:=((((((Fr.refl [P] w5).setCell ⟨P,0,none⟩ (by simp) (.int .i64 4)).setCell ⟨P,1,none⟩ (by simp) (.int .i64 0)).setCell ⟨P,2,none⟩ (by simp) (.float .f64 0)).setCell ⟨P,3,none⟩ (by simp) (.string ⟨x.toArray⟩)).setCell ⟨P,4,none⟩ (by simp) (.slice none 0 0)).setCell ⟨P,5,none⟩ (by simp) (.slice none 0 0);clear e0 z0 e1 z1 e2 z2 e3 z3 e4 z4 e5 z5;generalize ((((((w5).setCell ⟨P,0,none⟩ (.int .i64 4)).setCell ⟨P,1,none⟩ (.int .i64 0)).setCell ⟨P,2,none⟩ (.float .f64 0)).setCell ⟨P,3,none⟩ (.string ⟨x.toArray⟩)).setCell ⟨P,4,none⟩ (.slice none 0 0)).setCell ⟨P,5,none⟩ (.slice none 0 0)=X at *;obtain⟨y0,y1,y2,y3,y4,y5⟩:=cells6 hgF;have hrX:=hb5.kept FF (by simpa using hbP);have hff:=(A5.trans (FF.mono (m:=[b,P]) (by simp))).fewer (Nat.le_of_eq HP.out);refine bodyPost_ret (v:=.agg #[.int .i64 4,.int .i64 0,.float .f64 0,.string ⟨x.toArray⟩,.slice none 0 0,.slice none 0 0]) (by simp[results,Tryz.results127,go_sem,y0,y1,y2,y3,y4,y5]) rfl ?_;exact⟨_,rfl,ValIn.leaf (t:=x) (by omega) (by omega) (by unfold F64;omega) (by omega) f,hrX,hff⟩
end
section
open Go.RowKit
theorem cvalR_k1 (s:ByteArray) (hs:s.size≤100000000) (b k q f:Nat) (hf:f≤11) (hq:q<200) (hk:k<s.size) (hc:(s[k]'hk).toNat=1) (w:World) (hb:RdB b s k q w) :
  Calls Tryz.prog 127 #[.pointer (some ⟨b,0,none⟩),.int .i64 ((12 - f:Nat):Int)] w (RvPost b s (f+1) w (rdV (f+1) q (s.data.toList.drop k))):=by
 have hL:s.data.toList.length=s.size:=by simp
 have hg:s.data.toList.getD k 0=s[k]'hk:=by simp[List.getD,hk];rfl
 have hR:=rdV_step (f:=f) (p:=q) (s.data.toList.getD k 0) (s.data.toList.drop (k+1)) hq;rw[←drop_byte (by rw[hL];exact hk),hg,hc]at hR;rw[if_pos rfl]at hR;have HMy:=zh (cmust_yes 5);have HMn:=zh (cmust_no 5);rw[hR];have hsf:∀ (a:Addr) (x:Nat) (m:Mode) (w:World),(store a (.float .f64 x) m).run Tryz.prog w=stored Tryz.prog w a (.float .f64 x) m:=fun a x m w=>run_store _ w a _ m rfl
 have HB:=zh (fun w hb=>(show Calls Tryz.prog 160 #[.pointer (some ⟨b,0,none⟩),.int .i64 ((12 - f:Nat):Int)] w (fun e w'=>e=.returned (.tuple #[])∧RdB b s k (q+1) w'∧Fr [b] w w') from by
  have h:=cbegin_any s b k q (12 - f) (by omega) (by omega) w hb;simp only[if_pos (show 12 - f≤12∧q<200 by omega)]at h;exact h))
 have HY:=zh (fun w hb=>(show Calls Tryz.prog 124 #[.pointer (some ⟨b,0,none⟩)] w (fun e w'=>e=.returned (.int .u8 1)∧RdB b s (k+1) (q+1) w'∧Fr [b] w w') from by
  have h:=cbyte_yes s (by omega) b k (q+1) hk w hb;rw[hc]at h;exact h))
 have hbl:=hb.lt;have hb0:RdB b s k q (w.alloc (.cells #[.int .i64 0,.int .i64 0,.float .f64 0,.string ⟨#[]⟩,.slice none 0 0,.slice none 0 0] 28)):=(Lib.alloc_old w _ b hbl).trans hb;have hf0:=(Fr.refl [b] w).alloc (.cells #[.int .i64 0,.int .i64 0,.float .f64 0,.string ⟨#[]⟩,.slice none 0 0,.slice none 0 0] 28);have hg0:(w.alloc (.cells #[.int .i64 0,.int .i64 0,.float .f64 0,.string ⟨#[]⟩,.slice none 0 0,.slice none 0 0] 28)).heap[w.heap.size]?=some (.cells #[.int .i64 0,.int .i64 0,.float .f64 0,.string ⟨#[]⟩,.slice none 0 0,.slice none 0 0] 28 (0,0)):=heap_alloc_new w _;generalize hgh:w.heap.size=P at *;have HP:=zh hgh;clear hgh;have hbP:b≠P:=by omega
 have hnP:P ∉ [b]:=by simp;omega
 have wk:IntKind.i64.wrap 1=1:=by decide
 clear hR hg;by_cases h2:k+1<s.size
 ·have hg2:s.data.toList.getD (k+1) 0=s[k+1]'h2:=by simp[List.getD,h2];rfl
  have hD:=drop_byte (l:=s.data.toList) (k:=k+1) (by rw[hL];exact h2);rw[hg2]at hD;have hz:s.size - (s.data.toList.drop (k+1+1)).length=k+1+1:=by rw[List.length_drop,hL];omega
  have HC:=fun w hb=>cbyte_yes s (by omega) b (k+1) (q+1) h2 w hb
  have hcl:=(s[k+1]'h2).toNat_lt;have hrB:rdBool (s[k+1]'h2::s.data.toList.drop (k+1+1))=if (s[k+1]'h2).toNat≤1 then some (((s[k+1]'h2).toNat:Int),s.data.toList.drop (k+1+1)) else none:=by rw[rdBool]
  rw[hD,hrB];clear hD hrB hg2 hc hL;generalize (s[k+1]'h2).toNat=x at *;have HC:=zh HC;have wx:IntKind.i64.wrap (x:Int)=(x:Int):=by rw[IntKind.wrap_i64];omega
  by_cases hx1:x≤1
  ·have t5:decide ((x:Int)≤1)=true:=by simp;omega
   rw[if_pos hx1];generalize s.data.toList.drop (k+1+1)=l at *;have HZ:=zh hz;clear hz;go_in;go_wp2_with fail
   rw[HP.out];generalize w.alloc (.cells #[.int .i64 0,.int .i64 0,.float .f64 0,.string ⟨#[]⟩,.slice none 0 0,.slice none 0 0] 28)=W0 at *;refine(HB.out _ hb0).mono ?_;rintro e w1 ⟨rfl,hb1,hf1⟩;have hg1:=hf1.at hg0 hnP;have A1:=hf0.trans hf1;clear hb0 hg0 hf1 hf0;go_wp2_with fail
   refine(HY.out _ hb1).mono ?_;rintro e w2 ⟨rfl,hb2,hf2⟩;have hg2:=hf2.at hg1 hnP;have A2:=(A1.trans hf2).mono (m:=[b,P]) (by simp);clear hb1 hg1 hf2 A1;have c0:w2.cell? ⟨P,0,none⟩=some (.int .i64 0):=by rw[zc hg2];rfl
   have z0:w2.frozen? ⟨P,0,none⟩=false:=Lib.frozen_of_heap hg2 0;have F3:=(Fr.refl [P] w2).setCell ⟨P,0,none⟩ (by simp) (.int .i64 1);have hg3:(w2.setCell ⟨P,0,none⟩ (.int .i64 1)).heap[P]?=some (.cells #[.int .i64 1,.int .i64 0,.float .f64 0,.string ⟨#[]⟩,.slice none 0 0,.slice none 0 0] 28 (0,0)):=heap_setN hg2 0 _;have hb3:=hb2.kept F3 (by simpa using hbP);have A3:=A2.trans (F3.mono (by simp));go_wp2_with fail
   clear c0 z0;generalize w2.setCell ⟨P,0,none⟩ (.int .i64 1)=w3 at *;have c0:w3.cell? ⟨P,0,none⟩=some (.int .i64 1):=by rw[zc hg3];rfl
   go_wp2_with fail
   refine(HC.out _ hb3).mono ?_;rintro e w4 ⟨rfl,hb4,hf4⟩;have hg4:=hf4.at hg3 hnP;have A4:=A3.trans (hf4.mono (by simp));clear c0 hb3 hg3 hf4 A3 F3 hb2 hg2 A2;have c1:w4.cell? ⟨P,1,none⟩=some (.int .i64 0):=by rw[zc hg4];rfl
   have z1:w4.frozen? ⟨P,1,none⟩=false:=Lib.frozen_of_heap hg4 1;have F5:=(Fr.refl [P] w4).setCell ⟨P,1,none⟩ (by simp) (.int .i64 (x:Int));have hg5:(w4.setCell ⟨P,1,none⟩ (.int .i64 (x:Int))).heap[P]?=some (.cells #[.int .i64 1,.int .i64 (x:Int),.float .f64 0,.string ⟨#[]⟩,.slice none 0 0,.slice none 0 0] 28 (0,0)):=heap_setN hg4 1 _;have hb5:=hb4.kept F5 (by simpa using hbP);have A5:=A4.trans (F5.mono (by simp));go_wp2_with fail
   refine(HMy.out _).mono ?_;rintro e w6 ⟨rfl,rfl⟩;go_upto_region 22 with (fail)
   clear c1 z1;generalize w4.setCell ⟨P,1,none⟩ (.int .i64 (x:Int))=w5 at *;rw[←HZ.out]at hb5;have e0:w5.cell? ⟨P,0,none⟩=some (.int .i64 1):=by rw[zc hg5];rfl
   have z0:w5.frozen? ⟨P,0,none⟩=false:=Lib.frozen_of_heap hg5 0;have e1:w5.cell? ⟨P,1,none⟩=some (.int .i64 (x:Int)):=by rw[zc hg5];rfl
   have z1:w5.frozen? ⟨P,1,none⟩=false:=Lib.frozen_of_heap hg5 1;have e2:w5.cell? ⟨P,2,none⟩=some (.float .f64 0):=by rw[zc hg5];rfl
   have z2:w5.frozen? ⟨P,2,none⟩=false:=Lib.frozen_of_heap hg5 2;have e3:w5.cell? ⟨P,3,none⟩=some (.string ⟨#[]⟩):=by rw[zc hg5];rfl
   have z3:w5.frozen? ⟨P,3,none⟩=false:=Lib.frozen_of_heap hg5 3;have e4:w5.cell? ⟨P,4,none⟩=some (.slice none 0 0):=by rw[zc hg5];rfl
   have z4:w5.frozen? ⟨P,4,none⟩=false:=Lib.frozen_of_heap hg5 4;have e5:w5.cell? ⟨P,5,none⟩=some (.slice none 0 0):=by rw[zc hg5];rfl
   have z5:w5.frozen? ⟨P,5,none⟩=false:=Lib.frozen_of_heap hg5 5;go_wp2_with fail
   have hgF:(((((((w5).setCell ⟨P,0,none⟩ (.int .i64 1)).setCell ⟨P,1,none⟩ (.int .i64 (x:Int))).setCell ⟨P,2,none⟩ (.float .f64 0)).setCell ⟨P,3,none⟩ (.string ⟨#[]⟩)).setCell ⟨P,4,none⟩ (.slice none 0 0)).setCell ⟨P,5,none⟩ (.slice none 0 0)).heap[P]?=some (.cells #[.int .i64 1,.int .i64 (x:Int),.float .f64 0,.string ⟨#[]⟩,.slice none 0 0,.slice none 0 0] 28 (0,0)):=heap_setN (heap_setN (heap_setN (heap_setN (heap_setN (heap_setN hg5 0 _) 1 _) 2 _) 3 _) 4 _) 5 _;have FF:=((((((Fr.refl [P] w5).setCell ⟨P,0,none⟩ (by simp) (.int .i64 1)).setCell ⟨P,1,none⟩ (by simp) (.int .i64 (x:Int))).setCell ⟨P,2,none⟩ (by simp) (.float .f64 0)).setCell ⟨P,3,none⟩ (by simp) (.string ⟨#[]⟩)).setCell ⟨P,4,none⟩ (by simp) (.slice none 0 0)).setCell ⟨P,5,none⟩ (by simp) (.slice none 0 0);clear e0 z0 e1 z1 e2 z2 e3 z3 e4 z4 e5 z5;generalize ((((((w5).setCell ⟨P,0,none⟩ (.int .i64 1)).setCell ⟨P,1,none⟩ (.int .i64 (x:Int))).setCell ⟨P,2,none⟩ (.float .f64 0)).setCell ⟨P,3,none⟩ (.string ⟨#[]⟩)).setCell ⟨P,4,none⟩ (.slice none 0 0)).setCell ⟨P,5,none⟩ (.slice none 0 0)=X at *;obtain⟨y0,y1,y2,y3,y4,y5⟩:=cells6 hgF;have hrX:=hb5.kept FF (by simpa using hbP);have hff:=(A5.trans (FF.mono (m:=[b,P]) (by simp))).fewer (Nat.le_of_eq HP.out);refine bodyPost_ret (v:=.agg #[.int .i64 1,.int .i64 (x:Int),.float .f64 0,.string ⟨#[]⟩,.slice none 0 0,.slice none 0 0]) (by simp[results,Tryz.results127,go_sem,y0,y1,y2,y3,y4,y5]) rfl ?_;exact⟨_,rfl,ValIn.leaf (t:=[]) (by omega) (by omega) (by unfold F64;omega) (by simp) f,hrX,hff⟩
  ·have t5:decide ((x:Int)≤1)=false:=by simp;omega
   rw[if_neg hx1];go_in;go_wp2_with fail
   rw[HP.out];generalize w.alloc (.cells #[.int .i64 0,.int .i64 0,.float .f64 0,.string ⟨#[]⟩,.slice none 0 0,.slice none 0 0] 28)=W0 at *;refine(HB.out _ hb0).mono ?_;rintro e w1 ⟨rfl,hb1,hf1⟩;have hg1:=hf1.at hg0 hnP;have A1:=hf0.trans hf1;clear hb0 hg0 hf1 hf0;go_wp2_with fail
   refine(HY.out _ hb1).mono ?_;rintro e w2 ⟨rfl,hb2,hf2⟩;have hg2:=hf2.at hg1 hnP;have A2:=(A1.trans hf2).mono (m:=[b,P]) (by simp);clear hb1 hg1 hf2 A1;have c0:w2.cell? ⟨P,0,none⟩=some (.int .i64 0):=by rw[zc hg2];rfl
   have z0:w2.frozen? ⟨P,0,none⟩=false:=Lib.frozen_of_heap hg2 0;have F3:=(Fr.refl [P] w2).setCell ⟨P,0,none⟩ (by simp) (.int .i64 1);have hg3:(w2.setCell ⟨P,0,none⟩ (.int .i64 1)).heap[P]?=some (.cells #[.int .i64 1,.int .i64 0,.float .f64 0,.string ⟨#[]⟩,.slice none 0 0,.slice none 0 0] 28 (0,0)):=heap_setN hg2 0 _;have hb3:=hb2.kept F3 (by simpa using hbP);have A3:=A2.trans (F3.mono (by simp));go_wp2_with fail
   clear c0 z0;generalize w2.setCell ⟨P,0,none⟩ (.int .i64 1)=w3 at *;have c0:w3.cell? ⟨P,0,none⟩=some (.int .i64 1):=by rw[zc hg3];rfl
   go_wp2_with fail
   refine(HC.out _ hb3).mono ?_;rintro e w4 ⟨rfl,hb4,hf4⟩;have hg4:=hf4.at hg3 hnP;have A4:=A3.trans (hf4.mono (by simp));clear c0 hb3 hg3 hf4 A3 F3 hb2 hg2 A2;have c1:w4.cell? ⟨P,1,none⟩=some (.int .i64 0):=by rw[zc hg4];rfl
   have z1:w4.frozen? ⟨P,1,none⟩=false:=Lib.frozen_of_heap hg4 1;have F5:=(Fr.refl [P] w4).setCell ⟨P,1,none⟩ (by simp) (.int .i64 (x:Int));have hg5:(w4.setCell ⟨P,1,none⟩ (.int .i64 (x:Int))).heap[P]?=some (.cells #[.int .i64 1,.int .i64 (x:Int),.float .f64 0,.string ⟨#[]⟩,.slice none 0 0,.slice none 0 0] 28 (0,0)):=heap_setN hg4 1 _;have hb5:=hb4.kept F5 (by simpa using hbP);have A5:=A4.trans (F5.mono (by simp));go_wp2_with fail
   refine(HMn.out _).mono ?_;rintro e w6 ⟨rfl,rfl⟩;go_wp2_with fail
   exact⟨rfl,⟨5,by decide,rfl⟩,A5.fewer (Nat.le_of_eq HP.out)⟩
 ·have hD:s.data.toList.drop (k+1)=[]:=List.drop_eq_nil_of_le (by rw[hL];omega);rw[hD];have HC:=zh (fun w hb=>cbyte_no s b (k+1) (q+1) (by omega) w hb);go_in;go_wp2_with fail
  rw[HP.out];generalize w.alloc (.cells #[.int .i64 0,.int .i64 0,.float .f64 0,.string ⟨#[]⟩,.slice none 0 0,.slice none 0 0] 28)=W0 at *;refine(HB.out _ hb0).mono ?_;rintro e w1 ⟨rfl,hb1,hf1⟩;have hg1:=hf1.at hg0 hnP;have A1:=hf0.trans hf1;clear hb0 hg0 hf1 hf0;go_wp2_with fail
  refine(HY.out _ hb1).mono ?_;rintro e w2 ⟨rfl,hb2,hf2⟩;have hg2:=hf2.at hg1 hnP;have A2:=(A1.trans hf2).mono (m:=[b,P]) (by simp);clear hb1 hg1 hf2 A1;have c0:w2.cell? ⟨P,0,none⟩=some (.int .i64 0):=by rw[zc hg2];rfl
  have z0:w2.frozen? ⟨P,0,none⟩=false:=Lib.frozen_of_heap hg2 0;have F3:=(Fr.refl [P] w2).setCell ⟨P,0,none⟩ (by simp) (.int .i64 1);have hg3:(w2.setCell ⟨P,0,none⟩ (.int .i64 1)).heap[P]?=some (.cells #[.int .i64 1,.int .i64 0,.float .f64 0,.string ⟨#[]⟩,.slice none 0 0,.slice none 0 0] 28 (0,0)):=heap_setN hg2 0 _;have hb3:=hb2.kept F3 (by simpa using hbP);have A3:=A2.trans (F3.mono (by simp));go_wp2_with fail
  clear c0 z0;generalize w2.setCell ⟨P,0,none⟩ (.int .i64 1)=w3 at *;have c0:w3.cell? ⟨P,0,none⟩=some (.int .i64 1):=by rw[zc hg3];rfl
  go_wp2_with fail
  refine(HC.out _ hb3).mono ?_;rintro e w4 ⟨rfl,hf4⟩;go_wp2_with fail
  exact⟨rfl,⟨14,by decide,rfl⟩,(A3.trans (hf4.mono (by simp))).fewer (Nat.le_of_eq HP.out)⟩
theorem cvalR_kX (s:ByteArray) (hs:s.size≤100000000) (b k q f cn:Nat) (hf:f≤11) (hq:q<200) (hk:k<s.size) (hc:(s[k]'hk).toNat=cn) (hn:cn=0∨6<cn) (w:World) (hb:RdB b s k q w) :
  Calls Tryz.prog 127 #[.pointer (some ⟨b,0,none⟩),.int .i64 ((12 - f:Nat):Int)] w (RvPost b s (f+1) w (rdV (f+1) q (s.data.toList.drop k))):=by
 have hL:s.data.toList.length=s.size:=by simp
 have hg:s.data.toList.getD k 0=s[k]'hk:=by simp[List.getD,hk];rfl
 have hR:=rdV_step (f:=f) (p:=q) (s.data.toList.getD k 0) (s.data.toList.drop (k+1)) hq;rw[←drop_byte (by rw[hL];exact hk),hg]at hR;rw[hc,if_neg (by omega),if_neg (by omega),if_neg (by omega),if_neg (by omega),if_neg (by omega)]at hR;rw[hR];have hcl:cn<256:=hc ▸ (s[k]'hk).toNat_lt;have hsf:∀ (a:Addr) (x:Nat) (m:Mode) (w:World),(store a (.float .f64 x) m).run Tryz.prog w=stored Tryz.prog w a (.float .f64 x) m:=fun a x m w=>run_store _ w a _ m rfl
 have HB:=zh (fun w hb=>(show Calls Tryz.prog 160 #[.pointer (some ⟨b,0,none⟩),.int .i64 ((12 - f:Nat):Int)] w (fun e w'=>e=.returned (.tuple #[])∧RdB b s k (q+1) w'∧Fr [b] w w') from by
  have h:=cbegin_any s b k q (12 - f) (by omega) (by omega) w hb;simp only[if_pos (show 12 - f≤12∧q<200 by omega)]at h;exact h))
 have HY:=zh (fun w hb=>(show Calls Tryz.prog 124 #[.pointer (some ⟨b,0,none⟩)] w (fun e w'=>e=.returned (.int .u8 (cn:Int))∧RdB b s (k+1) (q+1) w'∧Fr [b] w w') from by
  have h:=cbyte_yes s (by omega) b k (q+1) hk w hb;rw[hc]at h;exact h))
 have hbl:=hb.lt;have hb0:RdB b s k q (w.alloc (.cells #[.int .i64 0,.int .i64 0,.float .f64 0,.string ⟨#[]⟩,.slice none 0 0,.slice none 0 0] 28)):=(Lib.alloc_old w _ b hbl).trans hb;have hf0:=(Fr.refl [b] w).alloc (.cells #[.int .i64 0,.int .i64 0,.float .f64 0,.string ⟨#[]⟩,.slice none 0 0,.slice none 0 0] 28);have hg0:(w.alloc (.cells #[.int .i64 0,.int .i64 0,.float .f64 0,.string ⟨#[]⟩,.slice none 0 0,.slice none 0 0] 28)).heap[w.heap.size]?=some (.cells #[.int .i64 0,.int .i64 0,.float .f64 0,.string ⟨#[]⟩,.slice none 0 0,.slice none 0 0] 28 (0,0)):=heap_alloc_new w _;generalize hgh:w.heap.size=P at *;have HP:=zh hgh;clear hgh;have hbP:b≠P:=by omega
 have hnP:P ∉ [b]:=by simp;omega
 have wk:IntKind.i64.wrap (cn:Int)=(cn:Int):=by rw[IntKind.wrap_i64];omega
 have t1:((cn:Int)==1)=false:=by simp;omega
 have t2:((cn:Int)==2)=false:=by simp;omega
 have t3:((cn:Int)==3)=false:=by simp;omega
 have t4:((cn:Int)==4)=false:=by simp;omega
 have t5:((cn:Int)==5)=false:=by simp;omega
 have t6:((cn:Int)==6)=false:=by simp;omega
 clear hR hg hL;go_in;go_wp2_with fail
 rw[HP.out];generalize w.alloc (.cells #[.int .i64 0,.int .i64 0,.float .f64 0,.string ⟨#[]⟩,.slice none 0 0,.slice none 0 0] 28)=W0 at *;refine(HB.out _ hb0).mono ?_;rintro e w1 ⟨rfl,hb1,hf1⟩;have hg1:=hf1.at hg0 hnP;have A1:=hf0.trans hf1;clear hb0 hg0 hf1 hf0;go_wp2_with fail
 refine(HY.out _ hb1).mono ?_;rintro e w2 ⟨rfl,hb2,hf2⟩;have hg2:=hf2.at hg1 hnP;have A2:=(A1.trans hf2).mono (m:=[b,P]) (by simp);clear hb1 hg1 hf2 A1;have c0:w2.cell? ⟨P,0,none⟩=some (.int .i64 0):=by rw[zc hg2];rfl
 have z0:w2.frozen? ⟨P,0,none⟩=false:=Lib.frozen_of_heap hg2 0;have F3:=(Fr.refl [P] w2).setCell ⟨P,0,none⟩ (by simp) (.int .i64 (cn:Int));have hg3:(w2.setCell ⟨P,0,none⟩ (.int .i64 (cn:Int))).heap[P]?=some (.cells #[.int .i64 (cn:Int),.int .i64 0,.float .f64 0,.string ⟨#[]⟩,.slice none 0 0,.slice none 0 0] 28 (0,0)):=heap_setN hg2 0 _;have hb3:=hb2.kept F3 (by simpa using hbP);have A3:=A2.trans (F3.mono (by simp));go_wp2_with fail
 exact⟨rfl,⟨5,by decide,rfl⟩,A3.fewer (Nat.le_of_eq HP.out)⟩
theorem cvalR_no (s:ByteArray) (b k q D f:Nat) (hD:D≤1000) (hq:q≤100000) (h:¬ (D≤12∧q<200)) (w:World) (hb:RdB b s k q w) :
  Calls Tryz.prog 127 #[.pointer (some ⟨b,0,none⟩),.int .i64 (D:Int)] w (RvPost b s f w none):=by
 have HB:=cbegin_any s b k q D hD hq;simp only[if_neg h]at HB;have HB:=zh HB;have hbl:=hb.lt;have hb0:RdB b s k q (w.alloc (.cells #[.int .i64 0,.int .i64 0,.float .f64 0,.string ⟨#[]⟩,.slice none 0 0,.slice none 0 0] 28)):=(Lib.alloc_old w _ b hbl).trans hb;have hf0:=(Fr.refl [b] w).alloc (.cells #[.int .i64 0,.int .i64 0,.float .f64 0,.string ⟨#[]⟩,.slice none 0 0,.slice none 0 0] 28);go_in;go_wp2_with fail
 refine(HB.out _ hb0).mono ?_;rintro e w1 ⟨rfl,hf1⟩;go_wp2_with fail
 exact⟨rfl,⟨5,by decide,rfl⟩,hf0.trans hf1⟩
theorem cvalR_torn (s:ByteArray) (b k q D f:Nat) (hD:D≤12) (hq:q<200) (hk:s.size≤k) (w:World) (hb:RdB b s k q w) :
  Calls Tryz.prog 127 #[.pointer (some ⟨b,0,none⟩),.int .i64 (D:Int)] w (RvPost b s f w none):=by
 have HB:=cbegin_any s b k q D (by omega) (by omega);simp only[if_pos (show D≤12∧q<200 from⟨hD,hq⟩)]at HB;have HB:=zh HB;have HN:=zh (fun w hb=>cbyte_no s b k (q+1) hk w hb);have hbl:=hb.lt;have hb0:RdB b s k q (w.alloc (.cells #[.int .i64 0,.int .i64 0,.float .f64 0,.string ⟨#[]⟩,.slice none 0 0,.slice none 0 0] 28)):=(Lib.alloc_old w _ b hbl).trans hb;have hf0:=(Fr.refl [b] w).alloc (.cells #[.int .i64 0,.int .i64 0,.float .f64 0,.string ⟨#[]⟩,.slice none 0 0,.slice none 0 0] 28);go_in;go_wp2_with fail
 refine(HB.out _ hb0).mono ?_;rintro e w1 ⟨rfl,hb1,hf1⟩;go_wp2_with fail
 refine(HN.out _ hb1).mono ?_;rintro e w2 ⟨rfl,hf2⟩;go_wp2_with fail
 exact⟨rfl,⟨14,by decide,rfl⟩,(hf0.trans hf1).trans hf2⟩
end
end Go.Proofs.YtepaaochgljcdaaGreatDoor
