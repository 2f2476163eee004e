/-
  Yp, Y6, Y7, Yq in one text.
-/
import Derived.Test.YtepaaochgljcdaaGreatDoorS07
import Derived.Test.YtepaaochgljcdaaGreatDoorCl
set_option maxRecDepth 100000
set_option maxHeartbeats 16000000
namespace Go.Proofs.YtepaaochgljcdaaGreatDoor
section
open Go.RowKit
theorem zero_str:(Tryz.prog.info? 9).map (fun i=>(i.zero,i.size,i.bytes))=some (some (.string ⟨#[]⟩),1,16):=by kernel_rfl
theorem names_ready {P f b:Nat} {ns:List (List UInt8)} {its:List VT} {pn pi:Value} {w w5:World} (h:Rows P f ns its pn pi w) (G2:Fr [b] w.drew w5) (hbl:b<P) (o:Obj):Rows P f ns its pn pi (w5.alloc o):=by
 have h1:Rows P f ns its pn pi w.drew:=h.far (b:=b) ⟨rfl,rfl,rfl,Nat.le_refl _,fun _ _ _=>rfl⟩ (by omega);exact(h1.far G2.grown (by omega)).far (World.grownBy_alloc w5 o (some b)) (by omega)
theorem cvalR_k6 (s:ByteArray) (hs:s.size≤100000000) (b k q f:Nat) (hf:f≤11) (hq:q<200) (hk:k<s.size) (hc:(s[k]'hk).toNat=6) (ih:ReadsV s b f) (w:World) (hb:RdB b s k q w) :
  Calls Tryz.prog 127 #[.pointer (some ⟨b,0,none⟩),.int .i64 ((12 - f:Nat):Int)] w (RvPost b s (f+1) w (rdV (f+1) q (s.data.toList.drop k))):=by
 have hL:s.data.toList.length=s.size:=by simp
 have hg:s.data.toList.getD k 0=s[k]'hk:=by simp[List.getD,hk];rfl
 have hR:=rdV_step (f:=f) (p:=q) (s.data.toList.getD k 0) (s.data.toList.drop (k+1)) hq;rw[←drop_byte (by rw[hL];exact hk),hg,hc]at hR;rw[if_neg (by decide),if_neg (by decide),if_neg (by decide),if_neg (by decide),if_pos (.inr rfl),show decide ((6:Nat)=6)=true from rfl]at hR;have HC:=fun w hb=>cmany_any s hs b (k+1) (q+1) (by omega) w hb
 have hdec:=fun n r=>@rdU_dec (s.data.toList.drop (k+1)) n r
 have hsuf:=fun(a r:List UInt8) (h:s.data.toList.drop (k+1)=a++r)=>suf_of h (by rw[hL];omega)
 have hsuf2:=fun(kk:Nat) (hkk:kk≤s.size) (a r:List UInt8) (h:s.data.toList.drop kk=a++r)=>suf_of h (by rw[hL];exact hkk)
 rw[hL]at hsuf hsuf2;have HSuf:=zh hsuf2;have HIH:=zh ih;have wD:IntKind.i64.wrap (((12 - f:Nat):Int)+1)=((13 - f:Nat):Int):=by rw[IntKind.wrap_i64];omega
 have hsf:∀ (a:Addr) (x:Nat) (m:Mode) (w:World),(store a (.float .f64 x) m).run Tryz.prog w=stored Tryz.prog w a (.float .f64 x) m:=fun a x m w=>run_store _ w a _ m rfl
 have HB:=zh (fun w hb=>(show Calls Tryz.prog 160 #[.pointer (some ⟨b,0,none⟩),.int .i64 ((12 - f:Nat):Int)] w (fun e w'=>e=.returned (.tuple #[])∧RdB b s k (q+1) w'∧Fr [b] w w') from by
  have h:=cbegin_any s b k q (12 - f) (by omega) (by omega) w hb;simp only[if_pos (show 12 - f≤12∧q<200 by omega)]at h;exact h))
 have HY:=zh (fun w hb=>(show Calls Tryz.prog 124 #[.pointer (some ⟨b,0,none⟩)] w (fun e w'=>e=.returned (.int .u8 6)∧RdB b s (k+1) (q+1) w'∧Fr [b] w w') from by
  have h:=cbyte_yes s (by omega) b k (q+1) hk w hb;rw[hc]at h;exact h))
 have hbl:=hb.lt;have hb0:RdB b s k q (w.alloc (.cells #[.int .i64 0,.int .i64 0,.float .f64 0,.string ⟨#[]⟩,.slice none 0 0,.slice none 0 0] 28)):=(Lib.alloc_old w _ b hbl).trans hb;have hf0:=(Fr.refl [b] w).alloc (.cells #[.int .i64 0,.int .i64 0,.float .f64 0,.string ⟨#[]⟩,.slice none 0 0,.slice none 0 0] 28);have hg0:(w.alloc (.cells #[.int .i64 0,.int .i64 0,.float .f64 0,.string ⟨#[]⟩,.slice none 0 0,.slice none 0 0] 28)).heap[w.heap.size]?=some (.cells #[.int .i64 0,.int .i64 0,.float .f64 0,.string ⟨#[]⟩,.slice none 0 0,.slice none 0 0] 28 (0,0)):=heap_alloc_new w _;generalize hgh:w.heap.size=P at *;have HP:=zh hgh;clear hgh;have hbP:b≠P:=by omega
 have hnP:P ∉ [b]:=by simp;omega
 have wk:IntKind.i64.wrap 6=6:=by decide
 rw[hR];clear hR hg hL hc hsuf2 ih;generalize rdU (s.data.toList.drop (k+1))=r at *;rcases r with _|⟨N,l⟩
 ·have HC:=zh HC;clear hdec hsuf;go_in;go_wp2_with fail
  rw[HP.out];generalize w.alloc (.cells #[.int .i64 0,.int .i64 0,.float .f64 0,.string ⟨#[]⟩,.slice none 0 0,.slice none 0 0] 28)=W0 at *;refine(HB.out _ hb0).mono ?_;rintro e w1 ⟨rfl,hb1,hf1⟩;have hg1:=hf1.at hg0 hnP;have A1:=hf0.trans hf1;clear hb0 hg0 hf1 hf0;go_wp2_with fail
  refine(HY.out _ hb1).mono ?_;rintro e w2 ⟨rfl,hb2,hf2⟩;have hg2:=hf2.at hg1 hnP;have A2:=(A1.trans hf2).mono (m:=[b,P]) (by simp);clear hb1 hg1 hf2 A1;have c0:w2.cell? ⟨P,0,none⟩=some (.int .i64 0):=by rw[zc hg2];rfl
  have z0:w2.frozen? ⟨P,0,none⟩=false:=Lib.frozen_of_heap hg2 0;have F3:=(Fr.refl [P] w2).setCell ⟨P,0,none⟩ (by simp) (.int .i64 6);have hg3:(w2.setCell ⟨P,0,none⟩ (.int .i64 6)).heap[P]?=some (.cells #[.int .i64 6,.int .i64 0,.float .f64 0,.string ⟨#[]⟩,.slice none 0 0,.slice none 0 0] 28 (0,0)):=heap_setN hg2 0 _;have hb3:=hb2.kept F3 (by simpa using hbP);have A3:=A2.trans (F3.mono (by simp));go_wp2_with fail
  clear c0 z0;generalize w2.setCell ⟨P,0,none⟩ (.int .i64 6)=w3 at *;have c0:w3.cell? ⟨P,0,none⟩=some (.int .i64 6):=by rw[zc hg3];rfl
  go_wp2_with fail
  refine(HC.out _ hb3).mono ?_;rintro e w4 ⟨⟨x,hx,rfl⟩,hf4⟩;go_wp2_with fail
  exact⟨rfl,⟨x,hx,rfl⟩,(A3.trans (hf4.mono (by simp))).fewer (Nat.le_of_eq HP.out)⟩
 ·obtain⟨hd1,_⟩:=hdec N l rfl;obtain⟨hs1,hs2⟩:=hsuf _ _ hd1;clear hdec hsuf hd1;by_cases hN:200<N
  ·have hmo:most200 (some (N,l))=none:=if_pos hN;rw[hmo]at HC;dsimp only;rw[if_pos hN];have HC:=zh HC;go_in;go_wp2_with fail
   rw[HP.out];generalize w.alloc (.cells #[.int .i64 0,.int .i64 0,.float .f64 0,.string ⟨#[]⟩,.slice none 0 0,.slice none 0 0] 28)=W0 at *;refine(HB.out _ hb0).mono ?_;rintro e w1 ⟨rfl,hb1,hf1⟩;have hg1:=hf1.at hg0 hnP;have A1:=hf0.trans hf1;clear hb0 hg0 hf1 hf0;go_wp2_with fail
   refine(HY.out _ hb1).mono ?_;rintro e w2 ⟨rfl,hb2,hf2⟩;have hg2:=hf2.at hg1 hnP;have A2:=(A1.trans hf2).mono (m:=[b,P]) (by simp);clear hb1 hg1 hf2 A1;have c0:w2.cell? ⟨P,0,none⟩=some (.int .i64 0):=by rw[zc hg2];rfl
   have z0:w2.frozen? ⟨P,0,none⟩=false:=Lib.frozen_of_heap hg2 0;have F3:=(Fr.refl [P] w2).setCell ⟨P,0,none⟩ (by simp) (.int .i64 6);have hg3:(w2.setCell ⟨P,0,none⟩ (.int .i64 6)).heap[P]?=some (.cells #[.int .i64 6,.int .i64 0,.float .f64 0,.string ⟨#[]⟩,.slice none 0 0,.slice none 0 0] 28 (0,0)):=heap_setN hg2 0 _;have hb3:=hb2.kept F3 (by simpa using hbP);have A3:=A2.trans (F3.mono (by simp));go_wp2_with fail
   clear c0 z0;generalize w2.setCell ⟨P,0,none⟩ (.int .i64 6)=w3 at *;have c0:w3.cell? ⟨P,0,none⟩=some (.int .i64 6):=by rw[zc hg3];rfl
   go_wp2_with fail
   refine(HC.out _ hb3).mono ?_;rintro e w4 ⟨⟨x,hx,rfl⟩,hf4⟩;go_wp2_with fail
   exact⟨rfl,⟨x,hx,rfl⟩,(A3.trans (hf4.mono (by simp))).fewer (Nat.le_of_eq HP.out)⟩
  ·have hmo:most200 (some (N,l))=some (N,l):=if_neg hN;rw[hmo]at HC;dsimp only;rw[if_neg hN];have HC:=zh HC;have hRR:rdItems (rdV f) true N (q+1) l=preI [] [] (rdItems (rdV f) true (N - 0) (q+1) (s.data.toList.drop (s.size - l.length))):=by rw[preI_nil,←hs1];rfl
   generalize rdItems (rdV f) true N (q+1) l=R at *;have HRR:=zh hRR;generalize hkk:s.size - l.length=kk at *;have HKK:=zh hkk;have hkl:kk≤s.size:=by omega
   clear hRR hs1 hs2 hkk hmo;go_in;go_wp2_with fail
   rw[HP.out];generalize w.alloc (.cells #[.int .i64 0,.int .i64 0,.float .f64 0,.string ⟨#[]⟩,.slice none 0 0,.slice none 0 0] 28)=W0 at *;refine(HB.out _ hb0).mono ?_;rintro e w1 ⟨rfl,hb1,hf1⟩;have hg1:=hf1.at hg0 hnP;have A1:=hf0.trans hf1;clear hb0 hg0 hf1 hf0;go_wp2_with fail
   refine(HY.out _ hb1).mono ?_;rintro e w2 ⟨rfl,hb2,hf2⟩;have hg2:=hf2.at hg1 hnP;have A2:=(A1.trans hf2).mono (m:=[b,P]) (by simp);clear hb1 hg1 hf2 A1;have c0:w2.cell? ⟨P,0,none⟩=some (.int .i64 0):=by rw[zc hg2];rfl
   have z0:w2.frozen? ⟨P,0,none⟩=false:=Lib.frozen_of_heap hg2 0;have F3:=(Fr.refl [P] w2).setCell ⟨P,0,none⟩ (by simp) (.int .i64 6);have hg3:(w2.setCell ⟨P,0,none⟩ (.int .i64 6)).heap[P]?=some (.cells #[.int .i64 6,.int .i64 0,.float .f64 0,.string ⟨#[]⟩,.slice none 0 0,.slice none 0 0] 28 (0,0)):=heap_setN hg2 0 _;have hb3:=hb2.kept F3 (by simpa using hbP);have A3:=A2.trans (F3.mono (by simp));go_wp2_with fail
   clear c0 z0;generalize w2.setCell ⟨P,0,none⟩ (.int .i64 6)=w3 at *;have c0:w3.cell? ⟨P,0,none⟩=some (.int .i64 6):=by rw[zc hg3];rfl
   go_wp2_with fail
   refine(HC.out _ hb3).mono ?_;rintro e w4 ⟨rfl,hb4,hf4⟩;dsimp only at hb4 ⊢
   rw[HKK.out]at hb4;have hg4:=hf4.at hg3 hnP;have A4:=A3.trans (hf4.mono (by simp));clear c0 hb3 hg3 hf4 A3 F3 hb2 hg2 A2;go_wp2_with fail
   go_loopw [45] (fun iv wr=>∃ (i p:Nat) (ns:List (List UInt8)) (its:List VT) (pn pi:Value) (kk:Nat),i≤N∧iv=.int .i64 (i:Int)∧ns.length=i∧its.length=i∧(∀ a ∈ ns,a.length≤30)∧p≤200∧kk≤s.size∧RdB b s kk p wr∧wr.heap[P]?=some (.cells #[.int .i64 6,.int .i64 0,.float .f64 0,.string ⟨#[]⟩,pn,pi] 28 (0,0))∧Fr [b,P] w wr∧Rows P f ns its pn pi wr∧Hid (R=preI ns its (rdItems (rdV f) true (N - i) p (s.data.toList.drop kk)))) (fun iv _=>N - (intOf iv).toNat)
   case atStart=>exact⟨0,q+1,[],[],.slice none 0 0,.slice none 0 0,kk,by omega,rfl,rfl,rfl,(fun a ha=>nomatch ha),by omega,hkl,hb4,hg4,A4,Rows.nil _ _ _,HRR.out⟩
   case round =>
    clear hb4 hg4 A4 HRR;obtain⟨i,p,ns,its,pn,pi,kk,hi,rfl,hnl,hil,hna,hp,hkk,hbr,hgr,Ar,hrow,hE⟩:=hrel;obtain⟨pa,pl,pc,rfl⟩:∃ a c d,pi=.slice a c d:=by
     obtain⟨_,⟨xs,h1,_⟩,_⟩:=hrow;rcases h1.2 with ⟨h,_⟩|⟨g,cap,cur,h,_⟩
     ·exact⟨_,_,_,h⟩
     ·exact⟨_,_,_,h⟩
    obtain⟨qa,ql,qc,rfl⟩:∃ a c d,pn=.slice a c d:=by
     obtain⟨h1,_⟩:=hrow;rcases h1.2 with ⟨h,_⟩|⟨g,cap,cur,h,_⟩
     ·exact⟨_,_,_,h⟩
     ·exact⟨_,_,_,h⟩
    obtain⟨c0,-,-,-,c4,-⟩:=cells6 hgr;by_cases hlt:i<N
    ·have t7:decide ((i:Int)<(N:Int))=true:=by simp;omega
     have hS:=hE.out;rw[show N - i=N - (i+1)+1 by omega,items_step6]at hS;have hC:Calls Tryz.prog 138 #[.pointer (some ⟨b,0,none⟩),.int .i64 30] wr.drew _:=cstrR_any s hs b kk p 30 (by omega) hkk wr.drew hbr.drew;have hrd:=fun a r h=>@rdStr_dec 30 (s.data.toList.drop kk) a r h
     have HNAs:=zh hna;clear hna;generalize rdStr 30 (s.data.toList.drop kk)=rs at *;cases rs with
     | none =>
      have HC:=zh hC;dsimp only at hS;subst hS;clear hC hrd hE;go_wp2_with fail
      go_region_with ((go_at_call 138;(with_reducible refine(HC.out).mono ?_);rintro e w5 ⟨⟨x,hx,rfl⟩,hf5⟩;refine shut_way (w:=wr) ⟨rfl,⟨x,hx,rfl⟩,(Ar.drew.trans (hf5.mono (by simp))).fewer (Nat.le_of_eq HP.out)⟩ ?_))
      all_goals trivial
     | some a =>
      obtain⟨a,l2⟩:=a;dsimp only at hS;obtain⟨e1,e2⟩:=HSuf.out kk hkk _ _ (hrd a l2 rfl).1;have HA30:=zh (hrd a l2 rfl).2;clear hrd hE;have HC:=zh hC;clear hC;rw[e1]at hS;have HSS:=zh hS;have HK2:=zh (show s.size - l2.length≤s.size from Nat.sub_le _ _);generalize hk2:s.size - l2.length=k2 at *;have HKE:=zh hk2;clear hS e1 hk2 e2;obtain⟨i0,hi0,hz0,hz1,hz2⟩:=Go.info_parts zero_VT;have HII:=zh hi0;have HZ0:=zh hz0;have HZ1:=zh hz1;have HZ2:=zh hz2;clear hi0 hz0 hz1 hz2;obtain⟨j0,hi0,hz0,hz1,hz2⟩:=Go.info_parts zero_str;have HIJ:=zh hi0;have HY0:=zh hz0;have HY1:=zh hz1;have HY2:=zh hz2;clear hi0 hz0 hz1 hz2;have HIL:=zh hil;have HNL:=zh hnl;have HNA:=zh (show ∀ x ∈ ns++[a],x.length≤30 from fun x hx=>by
       rcases List.mem_append.1 hx with h|h
       ·exact HNAs.out x h
       ·rw[List.mem_singleton.1 h];exact HA30.out)
      have hPr:=lt_of_block hgr;have HKn:=zh (fun(x:World) (h:x.heap[P]?=some (.cells #[.int .i64 6,.int .i64 0,.float .f64 0,.string ⟨#[]⟩,.slice qa ql qc,.slice pa pl pc] 28 (0,0)))=>(show x.cell? ⟨P,4,none⟩=some (.slice qa ql qc)∧x.frozen? ⟨P,4,none⟩=false from⟨by rw[zc h];rfl,Lib.frozen_of_heap h 4⟩));go_wp2_with fail
      go_region_law (first
        | ((go_simp;go_at_call 138;(with_reducible refine(HC.out).mono ?_);rintro e w5 ⟨rfl,G1,G2⟩;dsimp only at G1;rw[HKE.out]at G1;have g5:=G2.at hgr hnP;obtain⟨k5,z5⟩:=HKn.out _ g5;have a5:=(World.cell?_alloc_some w5 _ (.cells #[.string ⟨a.toArray⟩] 9) (by rw[k5];rfl)).trans k5;have hrA:=names_ready hrow G2 hbl (.cells #[.string ⟨a.toArray⟩] 9);have hx:=hrA.hn;dsimp only))
        | ((refine step_append_lies _ (by rfl) _ _ _ (by rfl) (P+1) 9 j0 _ 1 16 Tryz.underlying25 HIJ.out HY0.out HY1.out HY2.out rfl (by omega) (.slice qa ql qc) ns.length _ (by rfl) hx ⟨w5.heap.size,0,none⟩ 1 1 [.string ⟨a.toArray⟩] (by rfl) (by rfl) (World.news_of_block (cs:=#[.string ⟨a.toArray⟩]) (t:=9) (fr:=(0,0)) (heap_alloc_new w5 _)) (by simp[Value.oneCell']) (by omega) (by unfold maxLen;omega) (by omega) (by have:=G2.size;simp at this ⊢;omega) (w5.heap.size+1) (by simp) ?_;intro g cap u4 hown4 hgrow hat hlt4;have hrF:=hrA.name hown4 hgrow hat (by simp);have hnO:∀ k,k≤P→some k≠Value.ownBlock (.slice qa ql qc):=fun k hk e=>absurd (own_lt hx e.symm).1 (Nat.not_le_of_lt (Nat.lt_succ_of_le hk));have g4:=(hgrow.block P (Nat.lt_of_lt_of_le (lt_of_block g5) (by simp)) (hnO P (Nat.le_refl _))).trans ((Lib.alloc_old w5 _ P (lt_of_block g5)).trans g5);obtain⟨k4,z4⟩:=HKn.out _ g4)))
      all_goals
       have hbu:b<w5.heap.size:=lt_of_block G1;have F6:=((Fr.refl [P] u4).setCell ⟨P,4,none⟩ (by simp) (.slice (some ⟨g,0,none⟩) (ns.length+1) cap)).mono (m:=[b,P]) (by simp);have g6:(u4.setCell ⟨P,4,none⟩ (.slice (some ⟨g,0,none⟩) (ns.length+1) cap)).heap[P]?=some (.cells #[.int .i64 6,.int .i64 0,.float .f64 0,.string ⟨#[]⟩,.slice (some ⟨g,0,none⟩) (ns.length+1) cap,.slice pa pl pc] 28 (0,0)):=heap_setN g4 4 _;have b6:RdB b s k2 p (u4.setCell ⟨P,4,none⟩ (.slice (some ⟨g,0,none⟩) (ns.length+1) cap)):=(RdB.kept (((hgrow.block b (Nat.lt_of_lt_of_le hbu (by simp)) (hnO b (by omega))).trans (Lib.alloc_old w5 _ b hbu)).trans G1) ((Fr.refl [P] u4).setCell ⟨P,4,none⟩ (by simp) (.slice (some ⟨g,0,none⟩) (ns.length+1) cap)) (by simpa using hbP));have A5:Fr [b,P] w (w5.alloc (.cells #[.string ⟨a.toArray⟩] 9)):=(Ar.drew.trans (G2.mono (by simp))).alloc _;have fg:Fr [b,P] w u4:=⟨hgrow.os.trans A5.os,hgrow.tape.trans A5.tape,hgrow.output.trans A5.output,Nat.le_trans A5.size hgrow.size,fun k hk hn=>(hgrow.block k (Nat.lt_of_lt_of_le hk A5.size) (hnO k (by have:=HP.out;omega))).trans (A5.block k hk hn)⟩;have r6:Rows P f (ns++[a]) its (.slice (some ⟨g,0,none⟩) (ns.length+1) cap) (.slice pa pl pc) (u4.setCell ⟨P,4,none⟩ (.slice (some ⟨g,0,none⟩) (ns.length+1) cap)):=hrF.far (b:=P) ((Fr.refl [P] u4).setCell ⟨P,4,none⟩ (by simp) (.slice (some ⟨g,0,none⟩) (ns.length+1) cap)).grown (Nat.le_refl _);rw[HNL.out]at b6 g6 F6 r6;clear G1 G2 hrF hrA hx a5 A5 hnO k5 z5;go_wp2_with fail
       generalize hX6:u4.setCell ⟨P,4,none⟩ (.slice (some ⟨g,0,none⟩) (i+1) cap)=W6 at *;clear hX6;obtain⟨c0,-,-,-,-,c5⟩:=cells6 g6;have hPr:=lt_of_block g6;have A6:Fr [b,P] w W6:=fg.trans F6;have hI:=HIH.out k2 p W6.drew (HK2.out) hp b6.drew;have hvp:=fun v q t=>rdV_p f p (s.data.toList.drop k2) v q t
       have hvd:=fun v q t=>rdV_dec f p (s.data.toList.drop k2) v q t
       have hS:=HSS.out;clear F6 fg hgrow hat hlt4 hown4;generalize rdV f p (s.data.toList.drop k2)=rv at hI hvp hvd hS;cases rv with
       | none =>
        have HI:=zh hI;dsimp only at hS;subst hS;clear hI hvp hvd HSS;go_region_with ((go_at_call 127;(with_reducible refine(HI.out).mono ?_);rintro e w5 ⟨⟨x,hx,rfl⟩,hf5⟩;refine shut_way (w:=W6) ⟨rfl,⟨x,hx,rfl⟩,(A6.drew.trans (hf5.mono (by simp))).fewer (Nat.le_of_eq HP.out)⟩ ?_))
        all_goals trivial
       | some v =>
        obtain⟨v,p',l'⟩:=v;dsimp only at hS;have hp':=hvp v p' l' rfl;obtain⟨e1,e2⟩:=HSuf.out k2 HK2.out _ _ (hvd v p' l' rfl).1;clear hvp hvd HSS;have HI:=zh hI;have HSS:=zh hS;have HE1:=zh e1;clear hI hS e1;have HK:=zh (fun(x:World) (h:x.heap[P]?=some (.cells #[.int .i64 6,.int .i64 0,.float .f64 0,.string ⟨#[]⟩,.slice (some ⟨g,0,none⟩) (i+1) cap,.slice pa pl pc] 28 (0,0)))=>(show x.cell? ⟨P,5,none⟩=some (.slice pa pl pc)∧x.frozen? ⟨P,5,none⟩=false from⟨by rw[zc h];rfl,Lib.frozen_of_heap h 5⟩));go_region_law (first
          | ((go_simp;go_at_call 127;(with_reducible refine(HI.out).mono ?_);rintro e w5 ⟨cs,rfl,V5,G1,G2⟩;obtain⟨na,nl,nc,ia,il,ic,rfl⟩:=V5.six;have g5:=G2.at g6 hnP;obtain⟨k5,z5⟩:=HK.out _ g5;have a5:=(World.cell?_alloc_some w5 _ (.cells #[.int .i64 v.kind,.int .i64 v.num,.float .f64 v.flt,.string ⟨v.str.toArray⟩,.slice na nl nc,.slice ia il ic] 28) (by rw[k5];rfl)).trans k5;obtain⟨xs,hx,hrA,hvA⟩:=rows_ready r6 V5 G2 hbl hPr (.cells #[.int .i64 v.kind,.int .i64 v.num,.float .f64 v.flt,.string ⟨v.str.toArray⟩,.slice na nl nc,.slice ia il ic] 28);dsimp only))
          | ((refine step_append_lies _ (by rfl) _ _ _ (by rfl) (P+1) 28 i0 _ 6 88 Tryz.underlying26 HII.out HZ0.out HZ1.out HZ2.out rfl (by omega) (.slice pa pl pc) its.length xs (by rfl) hx ⟨w5.heap.size,0,none⟩ 1 1 [.int .i64 v.kind,.int .i64 v.num,.float .f64 v.flt,.string ⟨v.str.toArray⟩,.slice na nl nc,.slice ia il ic] (by rfl) (by rfl) (World.news_of_block (cs:=#[.int .i64 v.kind,.int .i64 v.num,.float .f64 v.flt,.string ⟨v.str.toArray⟩,.slice na nl nc,.slice ia il ic]) (t:=28) (fr:=(0,0)) (heap_alloc_new w5 _)) (by simp[Value.oneCell']) (by omega) (by unfold maxLen;omega) (by omega) (by have:=G2.size;simp at this ⊢;omega) (w5.heap.size+1) (by simp) ?_;intro g2 cap2 u5 hown5 hgrow5 hat5 hlt5;have hrF:=hrA.item hx (by rfl) hvA hown5 hgrow5 hat5 (by simp);have hnO:∀ k,k≤P→some k≠Value.ownBlock (.slice pa pl pc):=fun k hk e=>absurd (own_lt hx e.symm).1 (Nat.not_le_of_lt (Nat.lt_succ_of_le hk));have g4:=(hgrow5.block P (Nat.lt_of_lt_of_le (lt_of_block g5) (by simp)) (hnO P (Nat.le_refl _))).trans ((Lib.alloc_old w5 _ P (lt_of_block g5)).trans g5);obtain⟨k4,z4⟩:=HK.out _ g4)))
        all_goals
         go_wp2_with fail
         have hbu:b<w5.heap.size:=lt_of_block G1;have F7:=(Fr.refl [P] u5).setCell ⟨P,5,none⟩ (by simp) (.slice (some ⟨g2,0,none⟩) (its.length+1) cap2);have g7:(u5.setCell ⟨P,5,none⟩ (.slice (some ⟨g2,0,none⟩) (its.length+1) cap2)).heap[P]?=some (.cells #[.int .i64 6,.int .i64 0,.float .f64 0,.string ⟨#[]⟩,.slice (some ⟨g,0,none⟩) (i+1) cap,.slice (some ⟨g2,0,none⟩) (its.length+1) cap2] 28 (0,0)):=heap_setN g4 5 _;have b7:RdB b s (s.size - l'.length) p' (u5.setCell ⟨P,5,none⟩ (.slice (some ⟨g2,0,none⟩) (its.length+1) cap2)):=(RdB.kept (((hgrow5.block b (Nat.lt_of_lt_of_le hbu (by simp)) (hnO b (by omega))).trans (Lib.alloc_old w5 _ b hbu)).trans G1) F7 (by simpa using hbP));have A5:Fr [b,P] w (w5.alloc (.cells #[.int .i64 v.kind,.int .i64 v.num,.float .f64 v.flt,.string ⟨v.str.toArray⟩,.slice na nl nc,.slice ia il ic] 28)):=(A6.drew.trans (G2.mono (by simp))).alloc _;have fg:Fr [b,P] w u5:=⟨hgrow5.os.trans A5.os,hgrow5.tape.trans A5.tape,hgrow5.output.trans A5.output,Nat.le_trans A5.size hgrow5.size,fun k hk hn=>(hgrow5.block k (Nat.lt_of_lt_of_le hk A5.size) (hnO k (by have:=HP.out;omega))).trans (A5.block k hk hn)⟩;have r7:Rows P f (ns++[a]) (its++[v]) (.slice (some ⟨g,0,none⟩) (i+1) cap) (.slice (some ⟨g2,0,none⟩) (its.length+1) cap2) (u5.setCell ⟨P,5,none⟩ (.slice (some ⟨g2,0,none⟩) (its.length+1) cap2)):=hrF.far (b:=P) F7.grown (Nat.le_refl _);rw[HIL.out]at b7 g7 F7 r7;go_roundw
         case rel=>exact⟨i+1,p',ns++[a],its++[v],_,_,s.size - l'.length,by omega,by go_num,by simp;exact HNL.out,by simp;exact HIL.out,HNA.out,hp',by omega,b7,g7,fg.trans (F7.mono (by simp)),r7,by show _=_;rw[←HE1.out];exact HSS.out⟩
         case measure=>simp[intOf];omega
    ·have t7:decide ((i:Int)<(N:Int))=false:=by simp;omega
     have hiN:i=N:=by omega
     have hS:=hE.out;rw[show N - i=0 by omega,rdItems]at hS;simp only[preI,List.append_nil]at hS;subst hS;have hnode:=hrow.node (K:=6) (by omega) (by omega) (fun s hs=>Nat.le_trans (hna s hs) (by omega)) (by omega);have HD:=zh (show s.size - (s.data.toList.drop kk).length=kk by rw[List.length_drop];show s.size - (s.data.size - kk)=kk;have:s.data.size=s.size:=rfl;omega);clear c4 hna;go_upto_region 22 with (fail)
     clear c0;have e0:wr.cell? ⟨P,0,none⟩=some (.int .i64 6):=by rw[zc hgr];rfl
     have z0:wr.frozen? ⟨P,0,none⟩=false:=Lib.frozen_of_heap hgr 0;have e1:wr.cell? ⟨P,1,none⟩=some (.int .i64 0):=by rw[zc hgr];rfl
     have z1:wr.frozen? ⟨P,1,none⟩=false:=Lib.frozen_of_heap hgr 1;have e2:wr.cell? ⟨P,2,none⟩=some (.float .f64 0):=by rw[zc hgr];rfl
     have z2:wr.frozen? ⟨P,2,none⟩=false:=Lib.frozen_of_heap hgr 2;have e3:wr.cell? ⟨P,3,none⟩=some (.string ⟨#[]⟩):=by rw[zc hgr];rfl
     have z3:wr.frozen? ⟨P,3,none⟩=false:=Lib.frozen_of_heap hgr 3;have e4:wr.cell? ⟨P,4,none⟩=some (.slice qa ql qc):=by rw[zc hgr];rfl
     have z4:wr.frozen? ⟨P,4,none⟩=false:=Lib.frozen_of_heap hgr 4;have e5:wr.cell? ⟨P,5,none⟩=some (.slice pa pl pc):=by rw[zc hgr];rfl
     have z5:wr.frozen? ⟨P,5,none⟩=false:=Lib.frozen_of_heap hgr 5;go_wp2_with fail
     have hgF:(((((((wr).setCell ⟨P,0,none⟩ (.int .i64 6)).setCell ⟨P,1,none⟩ (.int .i64 0)).setCell ⟨P,2,none⟩ (.float .f64 0)).setCell ⟨P,3,none⟩ (.string ⟨#[]⟩)).setCell ⟨P,4,none⟩ (.slice qa ql qc)).setCell ⟨P,5,none⟩ (.slice pa pl pc)).heap[P]?=some (.cells #[.int .i64 6,.int .i64 0,.float .f64 0,.string ⟨#[]⟩,.slice qa ql qc,.slice pa pl pc] 28 (0,0)):=heap_setN (heap_setN (heap_setN (heap_setN (heap_setN (heap_setN hgr 0 _) 1 _) 2 _) 3 _) 4 _) 5 _;have FF:=((((((Fr.refl [P] wr).setCell ⟨P,0,none⟩ (by simp) (.int .i64 6)).setCell ⟨P,1,none⟩ (by simp) (.int .i64 0)).setCell ⟨P,2,none⟩ (by simp) (.float .f64 0)).setCell ⟨P,3,none⟩ (by simp) (.string ⟨#[]⟩)).setCell ⟨P,4,none⟩ (by simp) (.slice qa ql qc)).setCell ⟨P,5,none⟩ (by simp) (.slice pa pl pc);clear e0 z0 e1 z1 e2 z2 e3 z3 e4 z4 e5 z5;generalize ((((((wr).setCell ⟨P,0,none⟩ (.int .i64 6)).setCell ⟨P,1,none⟩ (.int .i64 0)).setCell ⟨P,2,none⟩ (.float .f64 0)).setCell ⟨P,3,none⟩ (.string ⟨#[]⟩)).setCell ⟨P,4,none⟩ (.slice qa ql qc)).setCell ⟨P,5,none⟩ (.slice pa pl pc)=X at *;obtain⟨y0,y1,y2,y3,y4,y5⟩:=cells6 hgF;have hrX:=hbr.kept FF (by simpa using hbP);have hff:=(Ar.trans (FF.mono (m:=[b,P]) (by simp))).fewer (Nat.le_of_eq HP.out);refine bodyPost_ret (v:=.agg #[.int .i64 6,.int .i64 0,.float .f64 0,.string ⟨#[]⟩,.slice qa ql qc,.slice pa pl pc]) (by simp[results,Tryz.results127,go_sem,y0,y1,y2,y3,y4,y5]) rfl ?_;exact⟨_,rfl,hnode.kept FF.size (fun g hg hl=>⟨by have:=HP.out;omega,FF.block g hl (by simp;omega)⟩),by rw[HD.out];exact hrX,hff⟩
end
section
open Go.RowKit
theorem shr_one {k:Int} (h : -9223372036854775808≤k∧k≤9223372036854775807):(k / 2==0)=decide (k=0∨k=1):=by
 rw[Bool.eq_iff_iff,beq_iff_eq,decide_eq_true_eq];omega
theorem vright_any:∀ (d:Nat) (v:VT) (g o n far:Nat) (w:World),PtrTo w d v g o→n+far=13 →
  Calls Tryz.prog 98 #[.pointer (some ⟨g,o,none⟩),.int .i64 (n:Int)] w (Gives (.bool (rightV v far)) w)
 | 0,_,_,_,_,_,_,h,_=>by obtain⟨_,_,h,_⟩:=h;exact h.elim
 | d+1,v,g,o,n,0,w,h,hn=>by
  have t0:decide ((12:Int)<(n:Int))=true:=by simp;omega
  have HR:=zh (right0 v);go_in;go_wp2_with fail
  go_ret;exact⟨ret_val (by rw[HR.out];rfl),Below.refl _ _⟩
 | d+1,v,g,o,n,far+1,w,h,hn=>by
  have t0:decide ((12:Int)<(n:Int))=false:=by simp;omega
  have ih:=zh (vright_any d);have Bn:=zh (fun w (h:PtrTo w (d+1) v g o)=>bare_n d v g o w h);have Bf:=zh (fun w (h:PtrTo w (d+1) v g o)=>bare_f d v g o w h);have Bs:=zh (fun w (h:PtrTo w (d+1) v g o)=>bare_s d v g o w h);have Br:=zh (fun w (h:PtrTo w (d+1) v g o)=>bare_r d v g o w h);have hp:=h;obtain⟨pn,p,cap,hg,x0,x1,x2,x3,x4,x5,h4,h5,h6,h7,h9⟩:=h.open
  by_cases k1:v.kind=1
  ·have t1:(v.kind==1)=true:=by rw[k1];rfl
   have hnum : -9223372036854775808≤v.num∧v.num≤9223372036854775807:=by
    obtain⟨_,cs,⟨_,_,_,_,h3,_⟩,_⟩:=h;exact h3
   have hsh:=shr_one hnum;have HR:=right1 (f:=far) k1;clear k1 h9 h6;have HB:=Bn.out w hp;generalize bareV v true false false false=b1 at *;rw[←hsh]at HR;cases b1
   ·have HR:=zh HR;have HB:=zh HB;clear hsh;go_in;go_wp2_with fail
    refine(HB.out).mono ?_;rintro e w2 ⟨rfl,rfl⟩;go_wp2_with fail
    go_ret;exact⟨ret_val (by rw[HR.out];rfl),Below.refl _ _⟩
   ·cases hk2:(v.num / 2==0)
    all_goals
     rw[hk2]at HR;have HR:=zh HR;have HB:=zh HB;clear hsh;go_in;go_wp2_with fail
     refine(HB.out).mono ?_;rintro e w2 ⟨rfl,rfl⟩;go_wp2_with fail
     go_ret;exact⟨ret_val (by rw[HR.out];rfl),Below.refl _ _⟩
  have t1:(v.kind==1)=false:=beq_eq_false_iff_ne.2 k1;by_cases k2:v.kind=2
  ·have t2:(v.kind==2)=true:=by rw[k2];rfl
   have HR:=zh (right2 (f:=far) k2);have HB:=zh (Bn.out w hp);clear k2 k1 h9 h6;go_in;go_wp2_with fail
   refine(HB.out).mono ?_;rintro e w2 ⟨rfl,rfl⟩;go_wp2_with fail
   go_ret;exact⟨ret_val (by rw[HR.out];rfl),Below.refl _ _⟩
  have t2:(v.kind==2)=false:=beq_eq_false_iff_ne.2 k2;by_cases k3:v.kind=3
  ·have t3:(v.kind==3)=true:=by rw[k3];rfl
   have HR:=zh (right3 (f:=far) k3);have HB:=zh (Bf.out w hp);clear k3 k2 k1 h9 h6;go_in;go_wp2_with fail
   refine(HB.out).mono ?_;rintro e w2 ⟨rfl,rfl⟩;go_wp2_with fail
   go_ret;exact⟨ret_val (by rw[HR.out];rfl),Below.refl _ _⟩
  have t3:(v.kind==3)=false:=beq_eq_false_iff_ne.2 k3;by_cases k4:v.kind=4
  ·have t4:(v.kind==4)=true:=by rw[k4];rfl
   have HR:=right4 (f:=far) k4;have hlen:(⟨v.str.toArray⟩:ByteArray).size=v.str.length:=by show v.str.toArray.size=_;simp
   clear k4 k3 k2 k1 h9 h6;have HB:=Bs.out w hp;generalize bareV v false false true false=b1 at *;rw[←hlen]at HR;generalize (⟨v.str.toArray⟩:ByteArray)=S at *;cases b1
   ·have HR:=zh HR;have HB:=zh HB;clear hlen;go_in;go_wp2_with fail
    refine(HB.out).mono ?_;rintro e w2 ⟨rfl,rfl⟩;go_wp2_with fail
    go_ret;exact⟨ret_val (by rw[HR.out];rfl),Below.refl _ _⟩
   ·by_cases h200:S.size≤200
    ·rw[decide_eq_true h200]at HR;have tl:decide ((S.size:Int)≤200)=true:=by simp;omega
     have HR:=zh HR;have HB:=zh HB;clear hlen;go_in;go_wp2_with fail
     refine(HB.out).mono ?_;rintro e w2 ⟨rfl,rfl⟩;go_wp2_with fail
     go_ret;exact⟨ret_val (by rw[HR.out];rfl),Below.refl _ _⟩
    ·rw[decide_eq_false h200]at HR;have tl:decide ((S.size:Int)≤200)=false:=by simp;omega
     have HR:=zh HR;have HB:=zh HB;clear hlen;go_in;go_wp2_with fail
     refine(HB.out).mono ?_;rintro e w2 ⟨rfl,rfl⟩;go_wp2_with fail
     go_ret;exact⟨ret_val (by rw[HR.out];rfl),Below.refl _ _⟩
  have t4:(v.kind==4)=false:=beq_eq_false_iff_ne.2 k4;obtain⟨pp,pc,rfl⟩:=h6.lenOf;by_cases k5:v.kind=5
  ·have t5:(v.kind==5)=true:=by rw[k5];rfl
   have t6:(v.kind==6)=false:=by rw[k5];rfl
   have HR:=right5 (f:=far) k5;have HB:=Br.out w hp;have H9:=zh h9;clear k5 k4 k3 k2 k1 h9 h6 h x1 x2 x3 h4 h5;generalize bareV v false false false true=b1 at *;generalize v.items=its at *;generalize v.names.length=N at *;generalize hM:its.length=M at *;have HM:=zh hM;clear hM;cases b1
   ·have HR:=zh HR;have HB:=zh HB;go_in;go_wp2_with fail
    refine(HB.out).mono ?_;rintro e w2 ⟨rfl,rfl⟩;go_wp2_with fail
    go_ret;exact⟨ret_val (by rw[HR.out];rfl),Below.refl _ _⟩
   ·by_cases hN:N=0
    ·have tN:decide ((0:Int)<(N:Int))=false:=by simp;omega
     have tn:¬ 0<N:=by omega
     rw[decide_eq_true hN]at HR;simp only[Bool.true_and]at HR;clear hN;have HR:=zh HR;have HB:=zh HB;have hB0:=Below.refl w.heap.size w;have HX5:=zh x5;have HG:=zh hg;generalize hgh:w.heap.size=H at hB0 H9;have HH:=zh hgh;clear hgh;go_in;go_wp2_with fail
     refine(HB.out).mono ?_;rintro e w2 ⟨rfl,rfl⟩;go_wp2_with fail
     go_loopw [90] (fun iv wr=>∃ i:Nat,i≤M∧iv=.int .i64 i∧Below H w wr∧Hid (rightL its far=rightL (its.drop i) far)) (fun iv _=>M - (intOf iv).toNat)
     case atStart=>exact⟨0,by omega,rfl,hB0,by show _=_;rw[List.drop_zero]⟩
     case round =>
      clear hB0;obtain⟨i,hi,rfl,hB,hE⟩:=hrel;have hHw:H≤wr.heap.size:=by have:=hB.size;rw[HH.out]at this;exact this
      have y5:wr.cell? ⟨g,o+5,none⟩=some (.slice p M cap):=(hB.cell (p:=⟨g,o+5,none⟩) (by rw[←HH.out];exact HG.out)).trans HX5.out;by_cases hlt:i<M
      ·have t7:decide ((i:Int)<(M:Int))=true:=by simp;omega
       obtain⟨g',o',rfl,hg',hv⟩:=H9.out i hlt;have hv2:=hv.kept (w':=wr) (by rw[HH.out];exact hB);have HC:=ih.out _ _ _ (n+1) far wr hv2 (by omega);have HD:=rightL_drop (l:=its) (i:=i) (f:=far) (by rw[HM.out];exact hlt);generalize its.getD i noVT=k at *;have b1:(0:Int)≤(i:Int):=by omega
       have b2:(i:Int)<(M:Int):=by omega
       have b3:((n:Int)+1)=((n+1:Nat):Int):=by omega
       rw[←b3]at HC;clear hv hv2 b3;cases hr:rightV k far
       ·rw[hr]at HC HD;have HC:=zh HC;have HD:=zh HD;go_wp2_with fail
        refine(HC.out).mono ?_;rintro e w5 ⟨rfl,hb5⟩;go_wp2_with fail
        go_ret;exact⟨ret_val (by rw[HR.out,hE.out,HD.out];rfl),by rw[HH.out];exact hB.trans (hb5.mono hHw)⟩
       ·rw[hr]at HC HD;have HC:=zh HC;have HD:=zh HD;go_wp2_with fail
        refine(HC.out).mono ?_;rintro e w5 ⟨rfl,hb5⟩;go_wp2_with fail
        go_roundw
        case rel=>exact⟨i+1,by omega,by go_num,hB.trans (hb5.mono hHw),by show _=_;rw[hE.out,HD.out,Bool.true_and]⟩
        case measure=>simp[intOf];omega
      ·have t7:decide ((i:Int)<(M:Int))=false:=by simp;omega
       have HF:=zh (rightL_end (l:=its) (i:=i) (f:=far) (by rw[HM.out];omega));go_wp2_with fail
       go_ret;exact⟨ret_val (by rw[HR.out,hE.out,HF.out];rfl),by rw[HH.out];exact hB⟩
    ·have tN:decide ((0:Int)<(N:Int))=true:=by simp;omega
     have tn:0<N:=by omega
     rw[decide_eq_false hN]at HR;clear hN;have HR:=zh HR;have HB:=zh HB;go_in;go_wp2_with fail
     refine(HB.out).mono ?_;rintro e w2 ⟨rfl,rfl⟩;go_wp2_with fail
     go_ret;exact⟨ret_val (by rw[HR.out];rfl),Below.refl _ _⟩
  have t5:(v.kind==5)=false:=beq_eq_false_iff_ne.2 k5;by_cases k6:v.kind=6
  ·have t6:(v.kind==6)=true:=by rw[k6];rfl
   have HR:=right6 (f:=far) k6;have HB:=zh (fun w h=>Br.out w h);have HRi:=fun w' (hb:Below w.heap.size w w')=>rising_any v.names _ w' (h6.kept hb)
   have H9:=zh h9;have HKp:=zh (fun w' (hb:Below w.heap.size w w')=>hp.kept hb);have HKc:=zh (fun w' (hb:Below w.heap.size w w')=>(show w'.cell? ⟨g,o+4,none⟩=some (.slice pp v.names.length pc)∧w'.cell? ⟨g,o+5,none⟩=some (.slice p v.items.length cap) from⟨(hb.cell (p:=⟨g,o+4,none⟩) hg).trans x4,(hb.cell (p:=⟨g,o+5,none⟩) hg).trans x5⟩));have HK0:=zh (fun w' (hb:Below w.heap.size w w')=>(hb.cell (p:=⟨g,o,none⟩) hg).trans x0);have HX5:=zh x5;have HG:=zh hg;clear k6 k5 k4 k3 k2 k1 h9 h6 h x1 x2 x3 h4 h5;generalize bareV v false false false true=b1 at *;generalize v.items=its at *;generalize risesB v.names=R at *;generalize v.names.length=N at *;generalize hM:its.length=M at *;have HM:=zh hM;clear hM;by_cases hNM:N=M
   ·subst hNM;rw[decide_eq_true rfl]at HR;cases R
    ·have HR:=zh HR;have HRi:=zh HRi;go_in;go_wp2_with fail
     go_region_held3 (fun w'=>w'.cell? ⟨g,o+4,none⟩=some (.slice pp N pc)∧w'.cell? ⟨g,o+5,none⟩=some (.slice p N cap)) (first|exact⟨x4,x5⟩|go_keep|exact HKc.out _ (undrew hb1)) ((go_at_call 130;(with_reducible refine(HRi.out _ ((Below.refl _ _).drew)).mono ?_);rintro e u1 ⟨rfl,hb1⟩))
     replace hb1:=undrew hb1;go_wp2_with fail
     go_ret;exact⟨ret_val (by rw[HR.out];rfl),hb1⟩
    ·have HRi:=zh HRi;cases b1
     ·have HR:=zh HR;go_in;go_wp2_with fail
      go_region_held3 (fun w'=>w'.cell? ⟨g,o+4,none⟩=some (.slice pp N pc)∧w'.cell? ⟨g,o+5,none⟩=some (.slice p N cap)) (first|exact⟨x4,x5⟩|go_keep|exact HKc.out _ (undrew hb1)) ((go_at_call 130;(with_reducible refine(HRi.out _ ((Below.refl _ _).drew)).mono ?_);rintro e u1 ⟨rfl,hb1⟩))
      replace hb1:=undrew hb1;go_wp2_with fail
      refine(HB.out _ (HKp.out _ hb1)).mono ?_;rintro e w2 ⟨rfl,rfl⟩;go_wp2_with fail
      go_ret;exact⟨ret_val (by rw[HR.out];rfl),hb1⟩
     ·simp only[Bool.true_and]at HR;have HR:=zh HR;go_in;go_wp2_with fail
      go_region_held3 (fun w'=>w'.cell? ⟨g,o+4,none⟩=some (.slice pp N pc)∧w'.cell? ⟨g,o+5,none⟩=some (.slice p N cap)) (first|exact⟨x4,x5⟩|go_keep|exact HKc.out _ (undrew hb1)) ((go_at_call 130;(with_reducible refine(HRi.out _ ((Below.refl _ _).drew)).mono ?_);rintro e u1 ⟨rfl,hb1⟩))
      replace hb1:=undrew hb1;have y0:=HK0.out _ hb1;go_wp2_with fail
      refine(HB.out _ (HKp.out _ hb1)).mono ?_;rintro e w2 ⟨rfl,rfl⟩;have y6:=(HKc.out _ hb1).2;have hB0:=hb1;generalize hgh:w.heap.size=H at hB0 H9;have HH:=zh hgh;clear hgh;clear x0 x4 x5 hb1;go_wp2_with fail
      go_loopw [90] (fun iv wr=>∃ i:Nat,i≤N∧iv=.int .i64 i∧Below H w wr∧Hid (rightL its far=rightL (its.drop i) far)) (fun iv _=>N - (intOf iv).toNat)
      case atStart=>exact⟨0,by omega,rfl,hB0,by show _=_;rw[List.drop_zero]⟩
      case round =>
       clear hB0;obtain⟨i,hi,rfl,hB,hE⟩:=hrel;have hHw:H≤wr.heap.size:=by have:=hB.size;rw[HH.out]at this;exact this
       have y5:wr.cell? ⟨g,o+5,none⟩=some (.slice p N cap):=(hB.cell (p:=⟨g,o+5,none⟩) (by rw[←HH.out];exact HG.out)).trans HX5.out;by_cases hlt:i<N
       ·have t7:decide ((i:Int)<(N:Int))=true:=by simp;omega
        obtain⟨g',o',rfl,hg',hv⟩:=H9.out i hlt;have hv2:=hv.kept (w':=wr) (by rw[HH.out];exact hB);have HC:=ih.out _ _ _ (n+1) far wr hv2 (by omega);have HD:=rightL_drop (l:=its) (i:=i) (f:=far) (by rw[HM.out];exact hlt);generalize its.getD i noVT=k at *;have b1:(0:Int)≤(i:Int):=by omega
        have b2:(i:Int)<(N:Int):=by omega
        have b3:((n:Int)+1)=((n+1:Nat):Int):=by omega
        rw[←b3]at HC;clear hv hv2 b3;cases hr:rightV k far
        ·rw[hr]at HC HD;have HC:=zh HC;have HD:=zh HD;go_wp2_with fail
         refine(HC.out).mono ?_;rintro e w5 ⟨rfl,hb5⟩;go_wp2_with fail
         go_ret;exact⟨ret_val (by rw[HR.out,hE.out,HD.out];rfl),by rw[HH.out];exact hB.trans (hb5.mono hHw)⟩
        ·rw[hr]at HC HD;have HC:=zh HC;have HD:=zh HD;go_wp2_with fail
         refine(HC.out).mono ?_;rintro e w5 ⟨rfl,hb5⟩;go_wp2_with fail
         go_roundw
         case rel=>exact⟨i+1,by omega,by go_num,hB.trans (hb5.mono hHw),by show _=_;rw[hE.out,HD.out,Bool.true_and]⟩
         case measure=>simp[intOf];omega
       ·have t7:decide ((i:Int)<(N:Int))=false:=by simp;omega
        have HF:=zh (rightL_end (l:=its) (i:=i) (f:=far) (by rw[HM.out];omega));go_wp2_with fail
        go_ret;exact⟨ret_val (by rw[HR.out,hE.out,HF.out];rfl),by rw[HH.out];exact hB⟩
   ·have tNM:((N:Int) != (M:Int))=true:=by rw[bne_iff_ne];omega
    rw[decide_eq_false hNM]at HR;have HR:=zh HR;go_in;go_wp2_with fail
    go_quiet (fail)
    go_wp2_with fail
    go_ret;exact⟨ret_val (by rw[HR.out];rfl),⟨rfl,rfl,rfl,Nat.le_refl _,fun _ _=>rfl⟩⟩
  have t6:(v.kind==6)=false:=beq_eq_false_iff_ne.2 k6;have HR:=zh (rightX (f:=far+1) k1 k2 k3 k4 k5 k6);clear k1 k2 k3 k4 k5 k6 h9 h6;go_in;go_wp2_with fail
  go_ret;exact⟨ret_val (by rw[HR.out];rfl),Below.refl _ _⟩
end
section
open Go.RowKit
theorem vRight_any (d:Nat) (v:VT) (cs:Array Value) (w:World) (h:ValAt w d v cs):Calls Tryz.prog 64 #[.agg cs] w (Gives (.bool (rightB v)) w):=by
 obtain⟨pn,p,cap,rfl⟩:=h.six;have hb:=h.box;have hB:Below w.heap.size w (w.alloc (.cells #[.int .i64 v.kind,.int .i64 v.num,.float .f64 v.flt,.string ⟨v.str.toArray⟩,pn,.slice p v.items.length cap] 28)):=(Below.refl _ _).alloc (Nat.le_refl _) _;have HP:=zh (vparts_any d v _ _ (h.kept hB));have HC:=zh (fun w' (hb':Below _ _ w')=>vright_any d v w.heap.size 0 1 12 w' (hb.kept hb') rfl);have hR:=rightB.eq_def v;clear hb h;by_cases h2:countV v 0≤200
 ·have t1:decide (((countV v 0:Nat):Int)≤200)=true:=by simp;omega
  rw[decide_eq_true h2,Bool.true_and]at hR;have HR:=zh hR;clear hR;generalize countV v 0=m at *;go_in;go_wp2_with fail
  refine(HP.out).mono ?_;rintro e w2 ⟨rfl,hb2⟩;go_wp2_with fail
  refine(HC.out _ hb2).mono ?_;rintro e w3 ⟨rfl,hb3⟩;go_wp2_with fail
  go_ret;exact⟨ret_val (by rw[HR.out];rfl),(hB.trans (hb2.mono hB.size)).trans (hb3.mono (Nat.le_trans hB.size hb2.size))⟩
 ·have t1:decide (((countV v 0:Nat):Int)≤200)=false:=by simp;omega
  rw[decide_eq_false h2,Bool.false_and]at hR;have HR:=zh hR;clear hR;generalize countV v 0=m at *;go_in;go_wp2_with fail
  refine(HP.out).mono ?_;rintro e w2 ⟨rfl,hb2⟩;go_wp2_with fail
  go_ret;exact⟨ret_val (by rw[HR.out];rfl),hB.trans (hb2.mono hB.size)⟩
end
section
open Go.RowKit
theorem readsV_all (s:ByteArray) (hs:s.size≤100000000) (b:Nat):∀ f:Nat,f≤12→ReadsV s b f
 | 0,_=>fun k q w _ hq hb=>by
  have:=cvalR_no s b k q 13 0 (by omega) (by omega) (by omega) w hb;rw[rdV];exact this
 | f+1,hf=>fun k q w hk hq hb=>by
  rw[show 13 - (f+1)=12 - f by omega];by_cases h200:q<200
  ·by_cases hks:k<s.size
   ·have hg:s.data.toList.getD k 0=s[k]'hks:=by simp[List.getD,hks];rfl
    have ih:=readsV_all s hs b f (by omega);have h256:(s[k]'hks).toNat<256:=UInt8.toNat_lt _;rcases Nat.lt_or_ge 6 (s[k]'hks).toNat with h7|h7
    ·exact cvalR_kX s hs b k q f _ (by omega) h200 hks rfl (.inr h7) w hb
    rcases Nat.lt_or_ge (s[k]'hks).toNat 1 with h0|h0
    ·exact cvalR_kX s hs b k q f _ (by omega) h200 hks rfl (.inl (by omega)) w hb
    have:(s[k]'hks).toNat=1∨(s[k]'hks).toNat=2∨(s[k]'hks).toNat=3∨(s[k]'hks).toNat=4∨(s[k]'hks).toNat=5∨(s[k]'hks).toNat=6:=by omega
    rcases this with h|h|h|h|h|h
    ·exact cvalR_k1 s hs b k q f (by omega) h200 hks h w hb
    ·exact cvalR_k2 s hs b k q f (by omega) h200 hks h w hb
    ·exact cvalR_k3 s hs b k q f (by omega) h200 hks h w hb
    ·exact cvalR_k4 s hs b k q f (by omega) h200 hks h w hb
    ·exact cvalR_k5 s hs b k q f (by omega) h200 hks h ih w hb
    ·exact cvalR_k6 s hs b k q f (by omega) h200 hks h ih w hb
   ·have:=cvalR_torn s b k q (12 - f) (f+1) (by omega) h200 (by omega) w hb;rw[show s.data.toList.drop k=[] from List.drop_eq_nil_of_le (by simp;show s.data.size≤k;have:s.data.size=s.size:=rfl;omega)];rw[rdV.eq_def];dsimp only;rw[if_neg (by omega)];exact this
  ·have:=cvalR_no s b k q (12 - f) (f+1) (by omega) (by omega) (by omega) w hb;rw[rdV.eq_def];dsimp only;rw[if_pos (by omega)];exact this
/-- what is left behind a value -/
def restV:Option (VT × List UInt8)→Option (List UInt8)
 | none=>none
 | some r=>some r.2
/-- the value that was read lies there; its own blocks are neither below L, nor b, nor that one -/
def ValThere (L b g:Nat) (r:Option (VT × List UInt8)) (w:World):Prop:=∀ x,r=some x→∃ cs,w.heap[g]?=some (.cells cs 28 (0,0))∧ValIn (fun k=>L≤k∧k≠b∧k≠g) w 12 x.1 cs
theorem rv1_any (s:ByteArray) (hs:s.size≤100000000) (b k g L:Nat) (hk:k≤s.size) (hbg:b≠g) (w:World) (hL:L≤w.heap.size) (hb:RdB b s k 0 w) (hg:w.heap[g]?=some (.cells #[.int .i64 0,.int .i64 0,.float .f64 0,.string ⟨#[]⟩,.slice none 0 0,.slice none 0 0] 28 (0,0))) :
  Calls Tryz.prog 126 #[.pointer (some ⟨b,0,none⟩),.pointer (some ⟨g,0,none⟩)] w
   (ClPost b g s (ValThere L b g (rdVal (s.data.toList.drop k))) (restV (rdVal (s.data.toList.drop k))) w):=by
 have HU:=readsV_all s hs b 12 (by omega) k 0 w hk (by omega) hb;have hgl:=lt_of_block hg;have hbl:=hb.lt;have hR:rdVal (s.data.toList.drop k)=(match rdV 12 0 (s.data.toList.drop k) with|none=>none|some r=>if rightB r.1 then some (r.1,r.2.2) else none):=rfl
 generalize rdV 12 0 (s.data.toList.drop k)=r at *;generalize rdVal (s.data.toList.drop k)=R at *;cases r with
 | none =>
  have HU:=zh HU;dsimp only at hR;subst hR;go_in;go_wp2_with fail
  refine(HU.out).mono ?_;rintro e w1 ⟨⟨x,hx,rfl⟩,hf1⟩;go_wp2_with fail
  exact⟨rfl,⟨x,hx,rfl⟩,hf1⟩
 | some r =>
  obtain⟨v,q,l⟩:=r;have HU:=zh HU;have HV:=zh (fun cs (w1 w2:World) (h:ValIn (fun g=>w.heap.size≤g) w1 12 v cs) (hw:Below w1.heap.size w1 w2)=>vRight_any 12 v cs w2 (h.at.kept hw));have hsf:∀ (a:Addr) (x:Nat) (m:Mode) (w:World),(store a (.float .f64 x) m).run Tryz.prog w=stored Tryz.prog w a (.float .f64 x) m:=fun a x m w=>run_store _ w a _ m rfl
  dsimp only at hR;cases hr:rightB v with
  | false =>
   rw[hr]at hR HV;simp only[Bool.false_eq_true,if_false]at hR;subst hR;have HM:=zh (cmust_no 5);clear hr;go_in;go_wp2_with fail
   refine(HU.out).mono ?_;rintro e w1 ⟨cs,rfl,hv1,hr1,hf1⟩;obtain⟨na,nl,nc,ia,il,ic,rfl⟩:=hv1.six;have hB1:Below w1.heap.size w1 (w1.alloc (.cells #[.int .i64 v.kind,.int .i64 v.num,.float .f64 v.flt,.string ⟨v.str.toArray⟩,.slice na nl nc,.slice ia il ic] 28)):=(Below.refl _ _).alloc (Nat.le_refl _) _;go_wp2_with fail
   refine(HV.out _ _ _ hv1 hB1).mono ?_;rintro e w2 ⟨rfl,hb2⟩;go_wp2_with fail
   refine(HM.out _).mono ?_;rintro e w3 ⟨rfl,rfl⟩;go_wp2_with fail
   have hBB:=hB1.trans (hb2.mono hB1.size);exact⟨rfl,⟨5,by decide,rfl⟩,hf1.trans ⟨hBB.os,hBB.tape,hBB.output,hBB.size,fun i hi hn=>hBB.block i hi⟩⟩
  | true =>
   rw[hr]at hR HV;simp only[if_true]at hR;subst hR;have HM:=zh (cmust_yes 5);clear hr;go_in;go_wp2_with fail
   refine(HU.out).mono ?_;rintro e w1 ⟨cs,rfl,hv1,hr1,hf1⟩;obtain⟨na,nl,nc,ia,il,ic,rfl⟩:=hv1.six;have hB1:Below w1.heap.size w1 (w1.alloc (.cells #[.int .i64 v.kind,.int .i64 v.num,.float .f64 v.flt,.string ⟨v.str.toArray⟩,.slice na nl nc,.slice ia il ic] 28)):=(Below.refl _ _).alloc (Nat.le_refl _) _;have hn1:(w1.alloc (.cells #[.int .i64 v.kind,.int .i64 v.num,.float .f64 v.flt,.string ⟨v.str.toArray⟩,.slice na nl nc,.slice ia il ic] 28)).heap[w1.heap.size]?=some (.cells #[.int .i64 v.kind,.int .i64 v.num,.float .f64 v.flt,.string ⟨v.str.toArray⟩,.slice na nl nc,.slice ia il ic] 28 (0,0)):=heap_alloc_new w1 _;go_wp2_with fail
   refine(HV.out _ _ _ hv1 hB1).mono ?_;rintro e w2 ⟨rfl,hb2⟩;have hn2:=(hb2.block _ (by simp)).trans hn1;have hBB:=hB1.trans (hb2.mono hB1.size);go_wp2_with fail
   refine(HM.out _).mono ?_;rintro e w3 ⟨rfl,rfl⟩;have hfB:Fr [b] w1 w2:=⟨hBB.os,hBB.tape,hBB.output,hBB.size,fun i hi hn=>hBB.block i hi⟩;have hg1:=hf1.at hg (by simp;omega);have hg2:=(hBB.block g (lt_of_block hg1)).trans hg1;have hb2:=(hBB.block b (lt_of_block hr1)).trans hr1;have hf2:=hf1.trans hfB;have hv2:ValIn (fun g=>w.heap.size≤g) w2 12 v _:=hv1.kept hBB.size fun k hk hl=>⟨hk,hBB.block k hl⟩
   have c0:w2.cell? ⟨g,0,none⟩=some (.int .i64 0):=by rw[zc hg2];rfl
   have z0:w2.frozen? ⟨g,0,none⟩=false:=Lib.frozen_of_heap hg2 0;have c1:w2.cell? ⟨g,1,none⟩=some (.int .i64 0):=by rw[zc hg2];rfl
   have z1:w2.frozen? ⟨g,1,none⟩=false:=Lib.frozen_of_heap hg2 1;have c2:w2.cell? ⟨g,2,none⟩=some (.float .f64 0):=by rw[zc hg2];rfl
   have z2:w2.frozen? ⟨g,2,none⟩=false:=Lib.frozen_of_heap hg2 2;have c3:w2.cell? ⟨g,3,none⟩=some (.string ⟨#[]⟩):=by rw[zc hg2];rfl
   have z3:w2.frozen? ⟨g,3,none⟩=false:=Lib.frozen_of_heap hg2 3;have c4:w2.cell? ⟨g,4,none⟩=some (.slice none 0 0):=by rw[zc hg2];rfl
   have z4:w2.frozen? ⟨g,4,none⟩=false:=Lib.frozen_of_heap hg2 4;have c5:w2.cell? ⟨g,5,none⟩=some (.slice none 0 0):=by rw[zc hg2];rfl
   have z5:w2.frozen? ⟨g,5,none⟩=false:=Lib.frozen_of_heap hg2 5;obtain⟨d0,d1,d2,d3,d4,d5⟩:=cells6 hn2;have hgF:(((((((w2).setCell ⟨g,0,none⟩ (.int .i64 v.kind)).setCell ⟨g,1,none⟩ (.int .i64 v.num)).setCell ⟨g,2,none⟩ (.float .f64 v.flt)).setCell ⟨g,3,none⟩ (.string ⟨v.str.toArray⟩)).setCell ⟨g,4,none⟩ (.slice na nl nc)).setCell ⟨g,5,none⟩ (.slice ia il ic)).heap[g]?=some (.cells #[.int .i64 v.kind,.int .i64 v.num,.float .f64 v.flt,.string ⟨v.str.toArray⟩,.slice na nl nc,.slice ia il ic] 28 (0,0)):=heap_setN (heap_setN (heap_setN (heap_setN (heap_setN (heap_setN hg2 0 _) 1 _) 2 _) 3 _) 4 _) 5 _;have FF:=((((((Fr.refl [g] w2).setCell ⟨g,0,none⟩ (by simp) (.int .i64 v.kind)).setCell ⟨g,1,none⟩ (by simp) (.int .i64 v.num)).setCell ⟨g,2,none⟩ (by simp) (.float .f64 v.flt)).setCell ⟨g,3,none⟩ (by simp) (.string ⟨v.str.toArray⟩)).setCell ⟨g,4,none⟩ (by simp) (.slice na nl nc)).setCell ⟨g,5,none⟩ (by simp) (.slice ia il ic);go_wp2_with fail
   go_end0;exact⟨rfl,⟨q,RdB.kept hb2 FF (by simpa using hbg)⟩,(hf2.mono (by simp)).trans (FF.mono (by simp)),fun x h=>by
    cases h
    exact⟨_,hgF,hv2.kept FF.size fun k hk hl=>⟨by have:w.heap.size≤k:=hk;omega,FF.block k hl (by have:w.heap.size≤k:=hk;simp;omega)⟩⟩⟩
/-- what ReadValue leaves -/
def RvalPost (s:ByteArray) (r:Option (VT × List UInt8)) (w:World) (e:Ending) (w':World):Prop :=
 match r with
 | some v=>∃ cs,e=.returned (.tuple #[.agg cs,.int .i64 (s.size - v.2.length:Nat),.int .i64 0])∧ValIn (fun g=>w.heap.size≤g) w' 12 v.1 cs∧Below w.heap.size w w'
 | none=>(∃ x:Int,x≠0∧e=.returned (.tuple #[.agg #[.int .i64 0,.int .i64 0,.float .f64 0,.string ⟨#[]⟩,.slice none 0 0,.slice none 0 0],.int .i64 0,.int .i64 x]))∧Below w.heap.size w w'
theorem enters_rv:∀ args w,(callFunc 126 args).run Tryz.prog w=.ok (.enter 126 args) w:=enters_of Tryz.func126 (by kernel_rfl) rfl
end
end Go.Proofs.YtepaaochgljcdaaGreatDoor
