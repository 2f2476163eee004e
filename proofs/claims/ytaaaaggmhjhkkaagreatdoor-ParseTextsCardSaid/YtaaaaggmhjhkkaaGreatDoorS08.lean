/-
  Kb, Kc, Kd, Fx, Nc in one text.
-/
import Derived.Test.YtaaaaggmhjhkkaaGreatDoorS07
import Derived.Test.YtaaaaggmhjhkkaaGreatDoorCl
set_option maxRecDepth 100000
set_option maxHeartbeats 8000000
namespace Go.Proofs.YtaaaaggmhjhkkaaGreatDoor
section
open Go.RowKit
theorem Reads.out {b t:Nat} {s:ByteArray} {a:Nat} {r:Tk × Int} {w:World} {e:Ending} {w':World} (h:Reads b t s a r w e w') :
  ∃ k c,e=.returned (.int .i64 r.2)∧Fr [b,t] w w'∧TokAt t k w'∧LexAt b s c w'∧c≤s.size∧k.pos=a∧(r.2=0→{ k with next:=c }=r.1):=by
 obtain⟨h1,h2,⟨k,c,h3,h4,h5,h6⟩,h7⟩:=h;by_cases h0:r.2=0
 ·obtain⟨g1,g2,g3,g4⟩:=h7 h0;exact⟨_,_,h1,h2,g1,g2,g3,g4,fun _=>rfl⟩
 ·exact⟨k,c,h1,h2,h4,h5,h6,h3,fun h=>absurd h h0⟩
/-- what a reading of a token leaves -/
def TokRes (b:Nat) (s:ByteArray) (r:Tk × Int) (a:Nat) (w:World) (e:Ending) (w':World):Prop :=
 ∃ (k:Tk) (c:Nat),e=.returned (.tuple #[.agg (tokCells k),.int .i64 r.2])∧k.pos=a∧LexAt b s c w'∧c≤s.size∧Fr [b] w w'∧(r.2=0→k=r.1∧c=r.1.next)
theorem Fr.less {b t:Nat} {a w w':World} (h:Fr [b] a w) (k:Fr [b,t] w w') (ht:a.heap.size≤t):Fr [b] a w' :=
 ⟨k.os.trans h.os,k.tape.trans h.tape,k.output.trans h.output,Nat.le_trans h.size k.size,fun i hi hn=>(k.block i (Nat.lt_of_lt_of_le hi h.size) (by simp at hn ⊢;omega)).trans (h.block i hi hn)⟩
theorem Fr.putNew {b:Nat} {a w:World} (h:Fr [b] a w) (p:Addr) (hp:a.heap.size≤p.block) (v:Value):Fr [b] a (w.setCell p v) :=
 h.less (t:=p.block) ((Fr.refl [b,p.block] w).setCell p (by simp) v) hp
/-- a token laid into a block, cell by cell -/
def putTok (W:World) (H:Nat) (k:Tk):World :=
 (((((W.setCell ⟨H,0,none⟩ (.int .i64 k.kind)).setCell ⟨H,1,none⟩ (.int .i64 k.pos)).setCell ⟨H,2,none⟩ (.int .i64 k.next)).setCell ⟨H,3,none⟩ (.int .i64 k.num)).setCell ⟨H,4,none⟩ (.float .f64 k.flt)).setCell ⟨H,5,none⟩ (.string ⟨k.str.toArray⟩)
theorem LexAt.putTok {b:Nat} {s:ByteArray} {a:Nat} {w:World} (h:LexAt b s a w) {H:Nat} (hne:b≠H) (k:Tk):LexAt b s a (putTok w H k) :=
 (((((h.other ⟨H,0,none⟩ _ hne).other ⟨H,1,none⟩ _ hne).other ⟨H,2,none⟩ _ hne).other ⟨H,3,none⟩ _ hne).other ⟨H,4,none⟩ _ hne).other ⟨H,5,none⟩ _ hne
theorem Fr.putTok {b:Nat} {a w:World} (h:Fr [b] a w) {H:Nat} (hH:a.heap.size≤H) (k:Tk):Fr [b] a (putTok w H k) :=
 (((((h.putNew ⟨H,0,none⟩ hH _).putNew ⟨H,1,none⟩ hH _).putNew ⟨H,2,none⟩ hH _).putNew ⟨H,3,none⟩ hH _).putNew ⟨H,4,none⟩ hH _).putNew ⟨H,5,none⟩ hH _
theorem TokAt.putTok {H:Nat} {k0:Tk} {w:World} (h:TokAt H k0 w) (k:Tk):TokAt H k (putTok w H k) :=
 (((((h.set (k':={ k0 with kind:=k.kind }) 0 _ rfl).set (k':={ k0 with kind:=k.kind,pos:=k.pos }) 1 _ rfl).set (k':={ k0 with kind:=k.kind,pos:=k.pos,next:=k.next }) 2 _ rfl).set (k':={ k0 with kind:=k.kind,pos:=k.pos,next:=k.next,num:=k.num }) 3 _ rfl).set (k':={ k0 with kind:=k.kind,pos:=k.pos,next:=k.next,num:=k.num,flt:=k.flt }) 4 _ rfl).set (k':=k) 5 _ rfl
theorem token_any (s:ByteArray) (hs:s.size≤1000000) (a0 b B:Nat) (ha0:a0≤s.size) (hBb:B≤b) (w:World) (hb:LexAt b s a0 w) (hE:EnvB B w) :
  Calls Tryz.prog 61 #[.pointer (some ⟨b,0,none⟩)] w (TokRes b s (tokS s.data.toList a0) (a0+far isBl s.data.toList a0) w):=by
 have hl:s.data.toList.length=s.size:=by simp
 have HL:=zh hl;have hfl:=far_le isBl s.data.toList (a:=a0) (by rw[hl];exact ha0);rw[hl]at hfl;have hblt:=lt_of_block hb;have hr:=tokS.eq_def s.data.toList a0;simp only at hr;have HR0:=zh hr;clear hr;have hX:=hb.kept ((Fr.refl [] w).alloc (.cells (tokCells ⟨0,0,0,0,0,[]⟩) 98)) (by simp);have hE1:=hE.below ((Below.refl B w).alloc hE.1 (.cells (tokCells ⟨0,0,0,0,0,[]⟩) 98));have hR:TokAt w.heap.size ⟨0,0,0,0,0,[]⟩ (w.alloc (.cells (tokCells ⟨0,0,0,0,0,[]⟩) 98)):=heap_alloc_new w _;have hF1:=(Fr.refl [b] w).alloc (.cells (tokCells ⟨0,0,0,0,0,[]⟩) 98);have HW:=zh (while_any 83 enters_blank isBl (isBlank_any) s hs a0 b ha0);have hz1:(w.alloc (.cells (tokCells ⟨0,0,0,0,0,[]⟩) 98)).heap.size=w.heap.size+1:=by simp
 have HZ:=zh hz1;clear hz1 hl;go_in;go_wp2_with fail
 refine(HW.out _ hX).mono ?_;rintro e w1 ⟨rfl,hlx,hfr⟩;replace hR:=hR.kept hfr (by simp;omega);replace hF1:=hF1.trans hfr;replace hE1:=hE1.below (hfr.below hE1.1 (by simp;omega));have hg1:w.heap.size+1≤w1.heap.size:=by have:=hfr.size;have:=HZ.out;omega
 clear hX hfr HZ;generalize a0+far isBl s.data.toList a0=a at *;generalize hgh:w.heap.size=H at *;have l0:=hlx.c0;have l1:=hlx.c1;have hst:=store_float;go_wp2_with fail
 have htk:TokAt w1.heap.size ⟨1,a,0,0,0,[]⟩ (w1.alloc (.cells #[.int .i64 1,.int .i64 a,.int .i64 0,.int .i64 0,.float .f64 0,.string ⟨#[]⟩] 98)):=heap_alloc_new w1 _;replace hlx:=hlx.kept ((Fr.refl [] w1).alloc (.cells #[.int .i64 1,.int .i64 a,.int .i64 0,.int .i64 0,.float .f64 0,.string ⟨#[]⟩] 98)) (by simp);replace hR:=hR.kept ((Fr.refl [] w1).alloc (.cells #[.int .i64 1,.int .i64 a,.int .i64 0,.int .i64 0,.float .f64 0,.string ⟨#[]⟩] 98)) (by simp);replace hF1:=hF1.alloc (.cells #[.int .i64 1,.int .i64 a,.int .i64 0,.int .i64 0,.float .f64 0,.string ⟨#[]⟩] 98);replace hE1:=hE1.below ((Below.refl B w1).alloc hE1.1 (.cells #[.int .i64 1,.int .i64 a,.int .i64 0,.int .i64 0,.float .f64 0,.string ⟨#[]⟩] 98));have hBT:B≤w1.heap.size:=by have:=hE.1;omega
 generalize w1.alloc (.cells #[.int .i64 1,.int .i64 a,.int .i64 0,.int .i64 0,.float .f64 0,.string ⟨#[]⟩] 98)=W2 at *;generalize hgt:w1.heap.size=T at *;have hbT:b≠T:=by omega
 have hbH:b≠H:=by omega
 have hHT:H≠T:=by omega
 have hFr:Fr [b] w W2:=by exact hF1
 clear hF1 hgt l0 l1 HW;have l0:=hlx.c0;have l1:=hlx.c1;have HR:=zh HR0.out;clear HR0;have he:a=s.data.toList.length↔a=s.size:=by rw[HL.out]
 by_cases h1:a=s.size
 ·have t1:((a:Int)==(s.size:Int))=true:=by rw[h1];exact beq_self_eq_true _
  have hr:=HR.out;rw[if_pos (he.2 h1)]at hr;have HR2:=zh hr;clear hr HR he;obtain⟨k,hk⟩:∃ k:Tk,k=⟨1,a,0,0,0,[]⟩:=⟨_,rfl⟩;rw[←hk]at htk;have HK:=zh hk;clear hk h1;go_wp2_with fail
  go_quiet (fail)
  replace hlx:=hlx.drewN nq;replace htk:=htk.drewN nq;replace hFr:=hFr.drewN nq;replace hR:=hR.drewN nq;replace hE1:=hE1.drewN nq;clear l0 l1;generalize W2.drewN nq=W3 at *;have l0:=hlx.c0;have l1:=hlx.c1;have htk2:=htk.set (k':={ k with next:=a }) 2 (.int .i64 (a:Nat)) rfl
  have hlx2:=hlx.other ⟨T,2,none⟩ (.int .i64 (a:Nat)) hbT;have hR2:=hR.other ⟨T,2,none⟩ (.int .i64 (a:Nat)) hHT;have hF2:=hFr.putNew ⟨T,2,none⟩ (by show w.heap.size≤T;omega) (.int .i64 (a:Nat));have y2:=htk.free 2;have hTH:T≠H:=Ne.symm hHT;have z0:(W3.setCell ⟨T,2,none⟩ (.int .i64 (a:Nat))).cell? ⟨T,0,none⟩=some (.int .i64 k.kind):=htk2.cell 0;have q0:(W3.setCell ⟨T,2,none⟩ (.int .i64 (a:Nat))).cell? ⟨H,0,none⟩=some (.int .i64 0):=hR2.cell 0;have p0:=hR2.free 0;have x0:W3.cell? ⟨T,0,none⟩=some (.int .i64 k.kind):=htk.cell 0;have r0:W3.cell? ⟨H,0,none⟩=some (.int .i64 0):=hR.cell 0;have o0:=hR.free 0;have z1:(W3.setCell ⟨T,2,none⟩ (.int .i64 (a:Nat))).cell? ⟨T,1,none⟩=some (.int .i64 k.pos):=htk2.cell 1;have q1:(W3.setCell ⟨T,2,none⟩ (.int .i64 (a:Nat))).cell? ⟨H,1,none⟩=some (.int .i64 0):=hR2.cell 1;have p1:=hR2.free 1;have x1:W3.cell? ⟨T,1,none⟩=some (.int .i64 k.pos):=htk.cell 1;have r1:W3.cell? ⟨H,1,none⟩=some (.int .i64 0):=hR.cell 1;have o1:=hR.free 1;have z2:(W3.setCell ⟨T,2,none⟩ (.int .i64 (a:Nat))).cell? ⟨T,2,none⟩=some (.int .i64 (a:Nat)):=htk2.cell 2;have q2:(W3.setCell ⟨T,2,none⟩ (.int .i64 (a:Nat))).cell? ⟨H,2,none⟩=some (.int .i64 0):=hR2.cell 2;have p2:=hR2.free 2;have x2:W3.cell? ⟨T,2,none⟩=some (.int .i64 k.next):=htk.cell 2
  have r2:W3.cell? ⟨H,2,none⟩=some (.int .i64 0):=hR.cell 2;have o2:=hR.free 2;have z3:(W3.setCell ⟨T,2,none⟩ (.int .i64 (a:Nat))).cell? ⟨T,3,none⟩=some (.int .i64 k.num):=htk2.cell 3;have q3:(W3.setCell ⟨T,2,none⟩ (.int .i64 (a:Nat))).cell? ⟨H,3,none⟩=some (.int .i64 0):=hR2.cell 3;have p3:=hR2.free 3;have x3:W3.cell? ⟨T,3,none⟩=some (.int .i64 k.num):=htk.cell 3;have r3:W3.cell? ⟨H,3,none⟩=some (.int .i64 0):=hR.cell 3;have o3:=hR.free 3;have z4:(W3.setCell ⟨T,2,none⟩ (.int .i64 (a:Nat))).cell? ⟨T,4,none⟩=some (.float .f64 k.flt):=htk2.cell 4;have q4:(W3.setCell ⟨T,2,none⟩ (.int .i64 (a:Nat))).cell? ⟨H,4,none⟩=some (.float .f64 0):=hR2.cell 4;have p4:=hR2.free 4;have x4:W3.cell? ⟨T,4,none⟩=some (.float .f64 k.flt):=htk.cell 4;have r4:W3.cell? ⟨H,4,none⟩=some (.float .f64 0):=hR.cell 4;have o4:=hR.free 4;have z5:(W3.setCell ⟨T,2,none⟩ (.int .i64 (a:Nat))).cell? ⟨T,5,none⟩=some (.string ⟨k.str.toArray⟩):=htk2.cell 5;have q5:(W3.setCell ⟨T,2,none⟩ (.int .i64 (a:Nat))).cell? ⟨H,5,none⟩=some (.string ⟨#[]⟩):=hR2.cell 5;have p5:=hR2.free 5;have x5:W3.cell? ⟨T,5,none⟩=some (.string ⟨k.str.toArray⟩):=htk.cell 5;have r5:W3.cell? ⟨H,5,none⟩=some (.string ⟨#[]⟩):=hR.cell 5;have o5:=hR.free 5;have hR2':=hR2;clear htk2 hR hR2 htk;go_wp2_with fail
  change bodyPost _ _ _ _ _ (putTok (W3.setCell ⟨T,2,none⟩ (.int .i64 (a:Nat))) H { k with next:=a })
  have g1:=hR2'.putTok { k with next:=a }
  have g2:=hlx2.putTok hbH { k with next:=a }
  have g3:=hF2.putTok (H:=H) (by omega) { k with next:=a }
  clear hlx2 hF2 z0 z1 z2 z3 z4 z5 q0 q1 q2 q3 q4 q5 p0 p1 p2 p3 p4 p5 x0 x1 x2 x3 x4 x5 r0 r1 r2 r3 r4 r5 o0 o1 o2 o3 o4 o5 y2;generalize putTok (W3.setCell ⟨T,2,none⟩ (.int .i64 (a:Nat))) H { k with next:=a }=WX at *
  have v0:WX.cell? ⟨H,0,none⟩=some (.int .i64 k.kind):=g1.cell 0;have v1:WX.cell? ⟨H,1,none⟩=some (.int .i64 k.pos):=g1.cell 1;have v2:WX.cell? ⟨H,2,none⟩=some (.int .i64 (a:Nat)):=g1.cell 2;have v3:WX.cell? ⟨H,3,none⟩=some (.int .i64 k.num):=g1.cell 3;have v4:WX.cell? ⟨H,4,none⟩=some (.float .f64 k.flt):=g1.cell 4;have v5:WX.cell? ⟨H,5,none⟩=some (.string ⟨k.str.toArray⟩):=g1.cell 5;refine bodyPost_ret (v:=.tuple #[.agg (tokCells { k with next:=a }),.int .i64 0]) (by simp[results,Tryz.results61,go_sem,tokCells,v0,v1,v2,v3,v4,v5]) rfl ?_
  exact⟨{ k with next:=a },a,by rw[HR2.out],by rw[HK.out],g2,hfl,g3,fun _=>by rw[HR2.out,HK.out];exact⟨rfl,rfl⟩⟩
 ·have ha:a<s.size:=by omega
  have t1:((a:Int)==(s.size:Int))=false:=by rw[beq_eq_false_iff_ne];omega
  have hr:=HR.out;rw[if_neg (fun e=>h1 (he.1 e))]at hr;have hg:s.data.toList.getD a 0=s[a]'ha:=by
   have h2:=byte_at s a ha;rw[List.getD_eq_getElem?_getD,h2];rfl
  have hgd:∀ p:UInt8→Bool,p (s[a]'ha)=true→1≤far p s.data.toList a:=fun p hp=>by rw[far_go p (by rw[HL.out];exact ha) (by rw[hg];exact hp)];omega
  have HGD:=zh hgd;rw[hg]at hr;clear HR he h1 hg hgd;have HD:=isDigit_any (s[a]'ha);cases hd:isDig (s[a]'ha)
  ·rw[hd]at HD hr;have HD:=zh HD;have HM:=isName_any (s[a]'ha);simp only[Bool.false_eq_true,if_false]at hr;cases hl:isLet (s[a]'ha)
   ·rw[hl]at hr;simp only[Bool.false_eq_true,if_false]at hr;have hnm:isNm (s[a]'ha)=(s[a]'ha==95):=by unfold isNm;rw[hl,hd];rfl
    by_cases h95:s[a]'ha=95
    ·have t2:(((s[a]'ha).toNat:Int) != 95)=false:=by rw[h95];rfl
     have t3:(((s[a]'ha).toNat:Int)==34)=false:=by rw[h95];rfl
     rw[hnm,h95]at HM;simp only[beq_self_eq_true]at HM;rw[h95]at hr;rw[←h95]at HM;have HM:=zh HM;clear hnm h95 hd hl HGD;rw[if_neg (by decide)]at hr;have HN:=zh (fun w (h1:LexAt b s a w) (h2:TokAt T ⟨1,a,0,0,0,[]⟩ w) (h3:EnvB B w)=>sign_any s hs a b T ha hbT w h1 h2);generalize signS s.data.toList a=r at *;have HR2:=zh hr;clear hr;go_wp2_with fail
     go_quiet (fail)
     replace hlx:=hlx.drewN nq;replace htk:=htk.drewN nq;replace hFr:=hFr.drewN nq;replace hR:=hR.drewN nq;replace hE1:=hE1.drewN nq;clear l0 l1;generalize W2.drewN nq=W3 at *;have l0:=hlx.c0;have l1:=hlx.c1;go_wp2_with fail
     go_quiet (refine Calls.quiet_of_same ((HD.out _).mono fun _ _ h=>⟨h.1,h.2.symm⟩))
     replace hlx:=hlx.drewN nq;replace htk:=htk.drewN nq;replace hFr:=hFr.drewN nq;replace hR:=hR.drewN nq;replace hE1:=hE1.drewN nq;clear l0 l1;generalize W3.drewN nq=W4 at *;have l0:=hlx.c0;have l1:=hlx.c1;go_wp2_with fail
     go_quiet (refine Calls.quiet_of_same ((HM.out _).mono fun _ _ h=>⟨h.1,h.2.symm⟩))
     replace hlx:=hlx.drewN nq;replace htk:=htk.drewN nq;replace hFr:=hFr.drewN nq;replace hR:=hR.drewN nq;replace hE1:=hE1.drewN nq;clear l0 l1;generalize W4.drewN nq=W5 at *;have l0:=hlx.c0;have l1:=hlx.c1;go_wp2_with fail
     go_quiet (fail)
     replace hlx:=hlx.drewN nq;replace htk:=htk.drewN nq;replace hFr:=hFr.drewN nq;replace hR:=hR.drewN nq;replace hE1:=hE1.drewN nq;clear l0 l1;generalize W5.drewN nq=W6 at *;have l0:=hlx.c0;have l1:=hlx.c1;go_wp2_with fail
     refine(HN.out _ hlx htk hE1).mono ?_;intro e w5 hrd;obtain⟨k,c,rfl,hf5,htk5,hlx5,hc,hp,hk⟩:=hrd.out;have HK:=zh hk;have HPo:=zh hp;clear hk hp hrd l0 l1 htk hlx;have htk:=htk5;have hlx:=hlx5;clear htk5 hlx5;replace hR:=hR.kept hf5 (by simp;omega);replace hFr:=hFr.less hf5 (by omega);have l0:=hlx.c0;have l1:=hlx.c1;have htk2:=htk.set (k':={ k with next:=c }) 2 (.int .i64 (c:Nat)) rfl
     have hlx2:=hlx.other ⟨T,2,none⟩ (.int .i64 (c:Nat)) hbT;have hR2:=hR.other ⟨T,2,none⟩ (.int .i64 (c:Nat)) hHT;have hF2:=hFr.putNew ⟨T,2,none⟩ (by show w.heap.size≤T;omega) (.int .i64 (c:Nat));have y2:=htk.free 2;have hTH:T≠H:=Ne.symm hHT;have z0:(w5.setCell ⟨T,2,none⟩ (.int .i64 (c:Nat))).cell? ⟨T,0,none⟩=some (.int .i64 k.kind):=htk2.cell 0;have q0:(w5.setCell ⟨T,2,none⟩ (.int .i64 (c:Nat))).cell? ⟨H,0,none⟩=some (.int .i64 0):=hR2.cell 0;have p0:=hR2.free 0;have x0:w5.cell? ⟨T,0,none⟩=some (.int .i64 k.kind):=htk.cell 0;have r0:w5.cell? ⟨H,0,none⟩=some (.int .i64 0):=hR.cell 0;have o0:=hR.free 0;have z1:(w5.setCell ⟨T,2,none⟩ (.int .i64 (c:Nat))).cell? ⟨T,1,none⟩=some (.int .i64 k.pos):=htk2.cell 1;have q1:(w5.setCell ⟨T,2,none⟩ (.int .i64 (c:Nat))).cell? ⟨H,1,none⟩=some (.int .i64 0):=hR2.cell 1;have p1:=hR2.free 1;have x1:w5.cell? ⟨T,1,none⟩=some (.int .i64 k.pos):=htk.cell 1;have r1:w5.cell? ⟨H,1,none⟩=some (.int .i64 0):=hR.cell 1;have o1:=hR.free 1;have z2:(w5.setCell ⟨T,2,none⟩ (.int .i64 (c:Nat))).cell? ⟨T,2,none⟩=some (.int .i64 (c:Nat)):=htk2.cell 2;have q2:(w5.setCell ⟨T,2,none⟩ (.int .i64 (c:Nat))).cell? ⟨H,2,none⟩=some (.int .i64 0):=hR2.cell 2;have p2:=hR2.free 2;have x2:w5.cell? ⟨T,2,none⟩=some (.int .i64 k.next):=htk.cell 2
     have r2:w5.cell? ⟨H,2,none⟩=some (.int .i64 0):=hR.cell 2;have o2:=hR.free 2;have z3:(w5.setCell ⟨T,2,none⟩ (.int .i64 (c:Nat))).cell? ⟨T,3,none⟩=some (.int .i64 k.num):=htk2.cell 3;have q3:(w5.setCell ⟨T,2,none⟩ (.int .i64 (c:Nat))).cell? ⟨H,3,none⟩=some (.int .i64 0):=hR2.cell 3;have p3:=hR2.free 3;have x3:w5.cell? ⟨T,3,none⟩=some (.int .i64 k.num):=htk.cell 3;have r3:w5.cell? ⟨H,3,none⟩=some (.int .i64 0):=hR.cell 3;have o3:=hR.free 3;have z4:(w5.setCell ⟨T,2,none⟩ (.int .i64 (c:Nat))).cell? ⟨T,4,none⟩=some (.float .f64 k.flt):=htk2.cell 4;have q4:(w5.setCell ⟨T,2,none⟩ (.int .i64 (c:Nat))).cell? ⟨H,4,none⟩=some (.float .f64 0):=hR2.cell 4;have p4:=hR2.free 4;have x4:w5.cell? ⟨T,4,none⟩=some (.float .f64 k.flt):=htk.cell 4;have r4:w5.cell? ⟨H,4,none⟩=some (.float .f64 0):=hR.cell 4;have o4:=hR.free 4;have z5:(w5.setCell ⟨T,2,none⟩ (.int .i64 (c:Nat))).cell? ⟨T,5,none⟩=some (.string ⟨k.str.toArray⟩):=htk2.cell 5;have q5:(w5.setCell ⟨T,2,none⟩ (.int .i64 (c:Nat))).cell? ⟨H,5,none⟩=some (.string ⟨#[]⟩):=hR2.cell 5;have p5:=hR2.free 5;have x5:w5.cell? ⟨T,5,none⟩=some (.string ⟨k.str.toArray⟩):=htk.cell 5;have r5:w5.cell? ⟨H,5,none⟩=some (.string ⟨#[]⟩):=hR.cell 5;have o5:=hR.free 5;have hR2':=hR2;clear htk2 hR hR2 htk;go_wp2_with fail
     change bodyPost _ _ _ _ _ (putTok (w5.setCell ⟨T,2,none⟩ (.int .i64 (c:Nat))) H { k with next:=c })
     have g1:=hR2'.putTok { k with next:=c }
     have g2:=hlx2.putTok hbH { k with next:=c }
     have g3:=hF2.putTok (H:=H) (by omega) { k with next:=c }
     clear hlx2 hF2 z0 z1 z2 z3 z4 z5 q0 q1 q2 q3 q4 q5 p0 p1 p2 p3 p4 p5 x0 x1 x2 x3 x4 x5 r0 r1 r2 r3 r4 r5 o0 o1 o2 o3 o4 o5 y2;generalize putTok (w5.setCell ⟨T,2,none⟩ (.int .i64 (c:Nat))) H { k with next:=c }=WX at *
     have v0:WX.cell? ⟨H,0,none⟩=some (.int .i64 k.kind):=g1.cell 0;have v1:WX.cell? ⟨H,1,none⟩=some (.int .i64 k.pos):=g1.cell 1;have v2:WX.cell? ⟨H,2,none⟩=some (.int .i64 (c:Nat)):=g1.cell 2;have v3:WX.cell? ⟨H,3,none⟩=some (.int .i64 k.num):=g1.cell 3;have v4:WX.cell? ⟨H,4,none⟩=some (.float .f64 k.flt):=g1.cell 4;have v5:WX.cell? ⟨H,5,none⟩=some (.string ⟨k.str.toArray⟩):=g1.cell 5;refine bodyPost_ret (v:=.tuple #[.agg (tokCells { k with next:=c }),.int .i64 r.2]) (by simp[results,Tryz.results61,go_sem,tokCells,v0,v1,v2,v3,v4,v5]) rfl ?_
     exact⟨{ k with next:=c },c,by rw[HR2.out],HPo.out,g2,hc,g3,fun h=>by rw[HR2.out]at h ⊢;have h3:=HK.out h;rw[←h3];exact⟨rfl,rfl⟩⟩
    ·have hnm0:isNm (s[a]'ha)=false:=by rw[hnm];exact beq_eq_false_iff_ne.2 h95
     rw[hnm0]at HM;have HM:=zh HM;clear hnm hnm0 h95 hd hl HGD;by_cases h34:s[a]'ha=34
     ·have t3:(((s[a]'ha).toNat:Int)==34)=true:=by rw[h34];rfl
      rw[if_pos h34]at hr;have HN:=zh (fun w (h1:LexAt b s a w) (h2:TokAt T ⟨1,a,0,0,0,[]⟩ w) (h3:EnvB B w)=>str_any s hs a b T ha hbT w h1 h2);generalize strS s.data.toList a=r at *;have HR2:=zh hr;clear hr;clear h34;go_wp2_with fail
      go_quiet (fail)
      replace hlx:=hlx.drewN nq;replace htk:=htk.drewN nq;replace hFr:=hFr.drewN nq;replace hR:=hR.drewN nq;replace hE1:=hE1.drewN nq;clear l0 l1;generalize W2.drewN nq=W3 at *;have l0:=hlx.c0;have l1:=hlx.c1;go_wp2_with fail
      go_quiet (refine Calls.quiet_of_same ((HD.out _).mono fun _ _ h=>⟨h.1,h.2.symm⟩))
      replace hlx:=hlx.drewN nq;replace htk:=htk.drewN nq;replace hFr:=hFr.drewN nq;replace hR:=hR.drewN nq;replace hE1:=hE1.drewN nq;clear l0 l1;generalize W3.drewN nq=W4 at *;have l0:=hlx.c0;have l1:=hlx.c1;go_wp2_with fail
      go_quiet (refine Calls.quiet_of_same ((HM.out _).mono fun _ _ h=>⟨h.1,h.2.symm⟩))
      replace hlx:=hlx.drewN nq;replace htk:=htk.drewN nq;replace hFr:=hFr.drewN nq;replace hR:=hR.drewN nq;replace hE1:=hE1.drewN nq;clear l0 l1;generalize W4.drewN nq=W5 at *;have l0:=hlx.c0;have l1:=hlx.c1;go_wp2_with fail
      go_quiet (fail)
      replace hlx:=hlx.drewN nq;replace htk:=htk.drewN nq;replace hFr:=hFr.drewN nq;replace hR:=hR.drewN nq;replace hE1:=hE1.drewN nq;clear l0 l1;generalize W5.drewN nq=W6 at *;have l0:=hlx.c0;have l1:=hlx.c1;go_wp2_with fail
      refine(HN.out _ hlx htk hE1).mono ?_;intro e w5 hrd;obtain⟨k,c,rfl,hf5,htk5,hlx5,hc,hp,hk⟩:=hrd.out;have HK:=zh hk;have HPo:=zh hp;clear hk hp hrd l0 l1 htk hlx;have htk:=htk5;have hlx:=hlx5;clear htk5 hlx5;replace hR:=hR.kept hf5 (by simp;omega);replace hFr:=hFr.less hf5 (by omega);have l0:=hlx.c0;have l1:=hlx.c1;have htk2:=htk.set (k':={ k with next:=c }) 2 (.int .i64 (c:Nat)) rfl
      have hlx2:=hlx.other ⟨T,2,none⟩ (.int .i64 (c:Nat)) hbT;have hR2:=hR.other ⟨T,2,none⟩ (.int .i64 (c:Nat)) hHT;have hF2:=hFr.putNew ⟨T,2,none⟩ (by show w.heap.size≤T;omega) (.int .i64 (c:Nat));have y2:=htk.free 2;have hTH:T≠H:=Ne.symm hHT;have z0:(w5.setCell ⟨T,2,none⟩ (.int .i64 (c:Nat))).cell? ⟨T,0,none⟩=some (.int .i64 k.kind):=htk2.cell 0;have q0:(w5.setCell ⟨T,2,none⟩ (.int .i64 (c:Nat))).cell? ⟨H,0,none⟩=some (.int .i64 0):=hR2.cell 0;have p0:=hR2.free 0;have x0:w5.cell? ⟨T,0,none⟩=some (.int .i64 k.kind):=htk.cell 0;have r0:w5.cell? ⟨H,0,none⟩=some (.int .i64 0):=hR.cell 0;have o0:=hR.free 0;have z1:(w5.setCell ⟨T,2,none⟩ (.int .i64 (c:Nat))).cell? ⟨T,1,none⟩=some (.int .i64 k.pos):=htk2.cell 1;have q1:(w5.setCell ⟨T,2,none⟩ (.int .i64 (c:Nat))).cell? ⟨H,1,none⟩=some (.int .i64 0):=hR2.cell 1;have p1:=hR2.free 1;have x1:w5.cell? ⟨T,1,none⟩=some (.int .i64 k.pos):=htk.cell 1;have r1:w5.cell? ⟨H,1,none⟩=some (.int .i64 0):=hR.cell 1;have o1:=hR.free 1;have z2:(w5.setCell ⟨T,2,none⟩ (.int .i64 (c:Nat))).cell? ⟨T,2,none⟩=some (.int .i64 (c:Nat)):=htk2.cell 2;have q2:(w5.setCell ⟨T,2,none⟩ (.int .i64 (c:Nat))).cell? ⟨H,2,none⟩=some (.int .i64 0):=hR2.cell 2;have p2:=hR2.free 2;have x2:w5.cell? ⟨T,2,none⟩=some (.int .i64 k.next):=htk.cell 2
      have r2:w5.cell? ⟨H,2,none⟩=some (.int .i64 0):=hR.cell 2;have o2:=hR.free 2;have z3:(w5.setCell ⟨T,2,none⟩ (.int .i64 (c:Nat))).cell? ⟨T,3,none⟩=some (.int .i64 k.num):=htk2.cell 3;have q3:(w5.setCell ⟨T,2,none⟩ (.int .i64 (c:Nat))).cell? ⟨H,3,none⟩=some (.int .i64 0):=hR2.cell 3;have p3:=hR2.free 3;have x3:w5.cell? ⟨T,3,none⟩=some (.int .i64 k.num):=htk.cell 3;have r3:w5.cell? ⟨H,3,none⟩=some (.int .i64 0):=hR.cell 3;have o3:=hR.free 3;have z4:(w5.setCell ⟨T,2,none⟩ (.int .i64 (c:Nat))).cell? ⟨T,4,none⟩=some (.float .f64 k.flt):=htk2.cell 4;have q4:(w5.setCell ⟨T,2,none⟩ (.int .i64 (c:Nat))).cell? ⟨H,4,none⟩=some (.float .f64 0):=hR2.cell 4;have p4:=hR2.free 4;have x4:w5.cell? ⟨T,4,none⟩=some (.float .f64 k.flt):=htk.cell 4;have r4:w5.cell? ⟨H,4,none⟩=some (.float .f64 0):=hR.cell 4;have o4:=hR.free 4;have z5:(w5.setCell ⟨T,2,none⟩ (.int .i64 (c:Nat))).cell? ⟨T,5,none⟩=some (.string ⟨k.str.toArray⟩):=htk2.cell 5;have q5:(w5.setCell ⟨T,2,none⟩ (.int .i64 (c:Nat))).cell? ⟨H,5,none⟩=some (.string ⟨#[]⟩):=hR2.cell 5;have p5:=hR2.free 5;have x5:w5.cell? ⟨T,5,none⟩=some (.string ⟨k.str.toArray⟩):=htk.cell 5;have r5:w5.cell? ⟨H,5,none⟩=some (.string ⟨#[]⟩):=hR.cell 5;have o5:=hR.free 5;have hR2':=hR2;clear htk2 hR hR2 htk;go_wp2_with fail
      change bodyPost _ _ _ _ _ (putTok (w5.setCell ⟨T,2,none⟩ (.int .i64 (c:Nat))) H { k with next:=c })
      have g1:=hR2'.putTok { k with next:=c }
      have g2:=hlx2.putTok hbH { k with next:=c }
      have g3:=hF2.putTok (H:=H) (by omega) { k with next:=c }
      clear hlx2 hF2 z0 z1 z2 z3 z4 z5 q0 q1 q2 q3 q4 q5 p0 p1 p2 p3 p4 p5 x0 x1 x2 x3 x4 x5 r0 r1 r2 r3 r4 r5 o0 o1 o2 o3 o4 o5 y2;generalize putTok (w5.setCell ⟨T,2,none⟩ (.int .i64 (c:Nat))) H { k with next:=c }=WX at *
      have v0:WX.cell? ⟨H,0,none⟩=some (.int .i64 k.kind):=g1.cell 0;have v1:WX.cell? ⟨H,1,none⟩=some (.int .i64 k.pos):=g1.cell 1;have v2:WX.cell? ⟨H,2,none⟩=some (.int .i64 (c:Nat)):=g1.cell 2;have v3:WX.cell? ⟨H,3,none⟩=some (.int .i64 k.num):=g1.cell 3;have v4:WX.cell? ⟨H,4,none⟩=some (.float .f64 k.flt):=g1.cell 4;have v5:WX.cell? ⟨H,5,none⟩=some (.string ⟨k.str.toArray⟩):=g1.cell 5;refine bodyPost_ret (v:=.tuple #[.agg (tokCells { k with next:=c }),.int .i64 r.2]) (by simp[results,Tryz.results61,go_sem,tokCells,v0,v1,v2,v3,v4,v5]) rfl ?_
      exact⟨{ k with next:=c },c,by rw[HR2.out],HPo.out,g2,hc,g3,fun h=>by rw[HR2.out]at h ⊢;have h3:=HK.out h;rw[←h3];exact⟨rfl,rfl⟩⟩
     ·have t3:(((s[a]'ha).toNat:Int)==34)=false:=by rw[beq_eq_false_iff_ne];intro e;exact h34 (UInt8.toNat_inj.1 (by show _=34;omega))
      rw[if_neg h34]at hr;have HN:=zh (fun w (h1:LexAt b s a w) (h2:TokAt T ⟨1,a,0,0,0,[]⟩ w) (h3:EnvB B w)=>sign_any s hs a b T ha hbT w h1 h2);generalize signS s.data.toList a=r at *;have HR2:=zh hr;clear hr;clear h34;go_wp2_with fail
      go_quiet (fail)
      replace hlx:=hlx.drewN nq;replace htk:=htk.drewN nq;replace hFr:=hFr.drewN nq;replace hR:=hR.drewN nq;replace hE1:=hE1.drewN nq;clear l0 l1;generalize W2.drewN nq=W3 at *;have l0:=hlx.c0;have l1:=hlx.c1;go_wp2_with fail
      go_quiet (refine Calls.quiet_of_same ((HD.out _).mono fun _ _ h=>⟨h.1,h.2.symm⟩))
      replace hlx:=hlx.drewN nq;replace htk:=htk.drewN nq;replace hFr:=hFr.drewN nq;replace hR:=hR.drewN nq;replace hE1:=hE1.drewN nq;clear l0 l1;generalize W3.drewN nq=W4 at *;have l0:=hlx.c0;have l1:=hlx.c1;go_wp2_with fail
      go_quiet (refine Calls.quiet_of_same ((HM.out _).mono fun _ _ h=>⟨h.1,h.2.symm⟩))
      replace hlx:=hlx.drewN nq;replace htk:=htk.drewN nq;replace hFr:=hFr.drewN nq;replace hR:=hR.drewN nq;replace hE1:=hE1.drewN nq;clear l0 l1;generalize W4.drewN nq=W5 at *;have l0:=hlx.c0;have l1:=hlx.c1;go_wp2_with fail
      go_quiet (fail)
      replace hlx:=hlx.drewN nq;replace htk:=htk.drewN nq;replace hFr:=hFr.drewN nq;replace hR:=hR.drewN nq;replace hE1:=hE1.drewN nq;clear l0 l1;generalize W5.drewN nq=W6 at *;have l0:=hlx.c0;have l1:=hlx.c1;go_wp2_with fail
      refine(HN.out _ hlx htk hE1).mono ?_;intro e w5 hrd;obtain⟨k,c,rfl,hf5,htk5,hlx5,hc,hp,hk⟩:=hrd.out;have HK:=zh hk;have HPo:=zh hp;clear hk hp hrd l0 l1 htk hlx;have htk:=htk5;have hlx:=hlx5;clear htk5 hlx5;replace hR:=hR.kept hf5 (by simp;omega);replace hFr:=hFr.less hf5 (by omega);have l0:=hlx.c0;have l1:=hlx.c1;have htk2:=htk.set (k':={ k with next:=c }) 2 (.int .i64 (c:Nat)) rfl
      have hlx2:=hlx.other ⟨T,2,none⟩ (.int .i64 (c:Nat)) hbT;have hR2:=hR.other ⟨T,2,none⟩ (.int .i64 (c:Nat)) hHT;have hF2:=hFr.putNew ⟨T,2,none⟩ (by show w.heap.size≤T;omega) (.int .i64 (c:Nat));have y2:=htk.free 2;have hTH:T≠H:=Ne.symm hHT;have z0:(w5.setCell ⟨T,2,none⟩ (.int .i64 (c:Nat))).cell? ⟨T,0,none⟩=some (.int .i64 k.kind):=htk2.cell 0;have q0:(w5.setCell ⟨T,2,none⟩ (.int .i64 (c:Nat))).cell? ⟨H,0,none⟩=some (.int .i64 0):=hR2.cell 0;have p0:=hR2.free 0;have x0:w5.cell? ⟨T,0,none⟩=some (.int .i64 k.kind):=htk.cell 0;have r0:w5.cell? ⟨H,0,none⟩=some (.int .i64 0):=hR.cell 0;have o0:=hR.free 0;have z1:(w5.setCell ⟨T,2,none⟩ (.int .i64 (c:Nat))).cell? ⟨T,1,none⟩=some (.int .i64 k.pos):=htk2.cell 1;have q1:(w5.setCell ⟨T,2,none⟩ (.int .i64 (c:Nat))).cell? ⟨H,1,none⟩=some (.int .i64 0):=hR2.cell 1;have p1:=hR2.free 1;have x1:w5.cell? ⟨T,1,none⟩=some (.int .i64 k.pos):=htk.cell 1;have r1:w5.cell? ⟨H,1,none⟩=some (.int .i64 0):=hR.cell 1;have o1:=hR.free 1;have z2:(w5.setCell ⟨T,2,none⟩ (.int .i64 (c:Nat))).cell? ⟨T,2,none⟩=some (.int .i64 (c:Nat)):=htk2.cell 2;have q2:(w5.setCell ⟨T,2,none⟩ (.int .i64 (c:Nat))).cell? ⟨H,2,none⟩=some (.int .i64 0):=hR2.cell 2;have p2:=hR2.free 2;have x2:w5.cell? ⟨T,2,none⟩=some (.int .i64 k.next):=htk.cell 2
      have r2:w5.cell? ⟨H,2,none⟩=some (.int .i64 0):=hR.cell 2;have o2:=hR.free 2;have z3:(w5.setCell ⟨T,2,none⟩ (.int .i64 (c:Nat))).cell? ⟨T,3,none⟩=some (.int .i64 k.num):=htk2.cell 3;have q3:(w5.setCell ⟨T,2,none⟩ (.int .i64 (c:Nat))).cell? ⟨H,3,none⟩=some (.int .i64 0):=hR2.cell 3;have p3:=hR2.free 3;have x3:w5.cell? ⟨T,3,none⟩=some (.int .i64 k.num):=htk.cell 3;have r3:w5.cell? ⟨H,3,none⟩=some (.int .i64 0):=hR.cell 3;have o3:=hR.free 3;have z4:(w5.setCell ⟨T,2,none⟩ (.int .i64 (c:Nat))).cell? ⟨T,4,none⟩=some (.float .f64 k.flt):=htk2.cell 4;have q4:(w5.setCell ⟨T,2,none⟩ (.int .i64 (c:Nat))).cell? ⟨H,4,none⟩=some (.float .f64 0):=hR2.cell 4;have p4:=hR2.free 4;have x4:w5.cell? ⟨T,4,none⟩=some (.float .f64 k.flt):=htk.cell 4;have r4:w5.cell? ⟨H,4,none⟩=some (.float .f64 0):=hR.cell 4;have o4:=hR.free 4;have z5:(w5.setCell ⟨T,2,none⟩ (.int .i64 (c:Nat))).cell? ⟨T,5,none⟩=some (.string ⟨k.str.toArray⟩):=htk2.cell 5;have q5:(w5.setCell ⟨T,2,none⟩ (.int .i64 (c:Nat))).cell? ⟨H,5,none⟩=some (.string ⟨#[]⟩):=hR2.cell 5;have p5:=hR2.free 5;have x5:w5.cell? ⟨T,5,none⟩=some (.string ⟨k.str.toArray⟩):=htk.cell 5;have r5:w5.cell? ⟨H,5,none⟩=some (.string ⟨#[]⟩):=hR.cell 5;have o5:=hR.free 5;have hR2':=hR2;clear htk2 hR hR2 htk;go_wp2_with fail
      change bodyPost _ _ _ _ _ (putTok (w5.setCell ⟨T,2,none⟩ (.int .i64 (c:Nat))) H { k with next:=c })
      have g1:=hR2'.putTok { k with next:=c }
      have g2:=hlx2.putTok hbH { k with next:=c }
      have g3:=hF2.putTok (H:=H) (by omega) { k with next:=c }
      clear hlx2 hF2 z0 z1 z2 z3 z4 z5 q0 q1 q2 q3 q4 q5 p0 p1 p2 p3 p4 p5 x0 x1 x2 x3 x4 x5 r0 r1 r2 r3 r4 r5 o0 o1 o2 o3 o4 o5 y2;generalize putTok (w5.setCell ⟨T,2,none⟩ (.int .i64 (c:Nat))) H { k with next:=c }=WX at *
      have v0:WX.cell? ⟨H,0,none⟩=some (.int .i64 k.kind):=g1.cell 0;have v1:WX.cell? ⟨H,1,none⟩=some (.int .i64 k.pos):=g1.cell 1;have v2:WX.cell? ⟨H,2,none⟩=some (.int .i64 (c:Nat)):=g1.cell 2;have v3:WX.cell? ⟨H,3,none⟩=some (.int .i64 k.num):=g1.cell 3;have v4:WX.cell? ⟨H,4,none⟩=some (.float .f64 k.flt):=g1.cell 4;have v5:WX.cell? ⟨H,5,none⟩=some (.string ⟨k.str.toArray⟩):=g1.cell 5;refine bodyPost_ret (v:=.tuple #[.agg (tokCells { k with next:=c }),.int .i64 r.2]) (by simp[results,Tryz.results61,go_sem,tokCells,v0,v1,v2,v3,v4,v5]) rfl ?_
      exact⟨{ k with next:=c },c,by rw[HR2.out],HPo.out,g2,hc,g3,fun h=>by rw[HR2.out]at h ⊢;have h3:=HK.out h;rw[←h3];exact⟨rfl,rfl⟩⟩
   ·rw[hl]at hr;have hnm:isNm (s[a]'ha)=true:=by unfold isNm;rw[hl];rfl
    have h95:¬ s[a]'ha=95:=by intro e;rw[e]at hl;exact absurd hl (by decide)
    have t2':(((s[a]'ha).toNat:Int)==95)=false:=by rw[beq_eq_false_iff_ne];intro e;exact h95 (UInt8.toNat_inj.1 (by show _=95;omega))
    have t2:(((s[a]'ha).toNat:Int) != 95)=true:=by rw[bne,t2'];rfl
    rw[hnm]at HM;have HM:=zh HM;clear hnm t2' h95 hd hl HGD;rw[if_pos rfl]at hr;have HN:=zh (fun w (h1:LexAt b s a w) (h2:TokAt T ⟨1,a,0,0,0,[]⟩ w) (h3:EnvB B w)=>name_any s hs a b T B hfl hbT hBb hBT w h1 h2 h3);generalize nameS s.data.toList a=r at *;have HR2:=zh hr;clear hr;go_wp2_with fail
    go_quiet (fail)
    replace hlx:=hlx.drewN nq;replace htk:=htk.drewN nq;replace hFr:=hFr.drewN nq;replace hR:=hR.drewN nq;replace hE1:=hE1.drewN nq;clear l0 l1;generalize W2.drewN nq=W3 at *;have l0:=hlx.c0;have l1:=hlx.c1;go_wp2_with fail
    go_quiet (refine Calls.quiet_of_same ((HD.out _).mono fun _ _ h=>⟨h.1,h.2.symm⟩))
    replace hlx:=hlx.drewN nq;replace htk:=htk.drewN nq;replace hFr:=hFr.drewN nq;replace hR:=hR.drewN nq;replace hE1:=hE1.drewN nq;clear l0 l1;generalize W3.drewN nq=W4 at *;have l0:=hlx.c0;have l1:=hlx.c1;go_wp2_with fail
    go_quiet (refine Calls.quiet_of_same ((HM.out _).mono fun _ _ h=>⟨h.1,h.2.symm⟩))
    replace hlx:=hlx.drewN nq;replace htk:=htk.drewN nq;replace hFr:=hFr.drewN nq;replace hR:=hR.drewN nq;replace hE1:=hE1.drewN nq;clear l0 l1;generalize W4.drewN nq=W5 at *;have l0:=hlx.c0;have l1:=hlx.c1;go_wp2_with fail
    refine(HN.out _ hlx htk hE1).mono ?_;intro e w5 hrd;obtain⟨k,c,rfl,hf5,htk5,hlx5,hc,hp,hk⟩:=hrd.out;have HK:=zh hk;have HPo:=zh hp;clear hk hp hrd l0 l1 htk hlx;have htk:=htk5;have hlx:=hlx5;clear htk5 hlx5;replace hR:=hR.kept hf5 (by simp;omega);replace hFr:=hFr.less hf5 (by omega);have l0:=hlx.c0;have l1:=hlx.c1;have htk2:=htk.set (k':={ k with next:=c }) 2 (.int .i64 (c:Nat)) rfl
    have hlx2:=hlx.other ⟨T,2,none⟩ (.int .i64 (c:Nat)) hbT;have hR2:=hR.other ⟨T,2,none⟩ (.int .i64 (c:Nat)) hHT;have hF2:=hFr.putNew ⟨T,2,none⟩ (by show w.heap.size≤T;omega) (.int .i64 (c:Nat));have y2:=htk.free 2;have hTH:T≠H:=Ne.symm hHT;have z0:(w5.setCell ⟨T,2,none⟩ (.int .i64 (c:Nat))).cell? ⟨T,0,none⟩=some (.int .i64 k.kind):=htk2.cell 0;have q0:(w5.setCell ⟨T,2,none⟩ (.int .i64 (c:Nat))).cell? ⟨H,0,none⟩=some (.int .i64 0):=hR2.cell 0;have p0:=hR2.free 0;have x0:w5.cell? ⟨T,0,none⟩=some (.int .i64 k.kind):=htk.cell 0;have r0:w5.cell? ⟨H,0,none⟩=some (.int .i64 0):=hR.cell 0;have o0:=hR.free 0;have z1:(w5.setCell ⟨T,2,none⟩ (.int .i64 (c:Nat))).cell? ⟨T,1,none⟩=some (.int .i64 k.pos):=htk2.cell 1;have q1:(w5.setCell ⟨T,2,none⟩ (.int .i64 (c:Nat))).cell? ⟨H,1,none⟩=some (.int .i64 0):=hR2.cell 1;have p1:=hR2.free 1;have x1:w5.cell? ⟨T,1,none⟩=some (.int .i64 k.pos):=htk.cell 1;have r1:w5.cell? ⟨H,1,none⟩=some (.int .i64 0):=hR.cell 1;have o1:=hR.free 1;have z2:(w5.setCell ⟨T,2,none⟩ (.int .i64 (c:Nat))).cell? ⟨T,2,none⟩=some (.int .i64 (c:Nat)):=htk2.cell 2;have q2:(w5.setCell ⟨T,2,none⟩ (.int .i64 (c:Nat))).cell? ⟨H,2,none⟩=some (.int .i64 0):=hR2.cell 2;have p2:=hR2.free 2;have x2:w5.cell? ⟨T,2,none⟩=some (.int .i64 k.next):=htk.cell 2
    have r2:w5.cell? ⟨H,2,none⟩=some (.int .i64 0):=hR.cell 2;have o2:=hR.free 2;have z3:(w5.setCell ⟨T,2,none⟩ (.int .i64 (c:Nat))).cell? ⟨T,3,none⟩=some (.int .i64 k.num):=htk2.cell 3;have q3:(w5.setCell ⟨T,2,none⟩ (.int .i64 (c:Nat))).cell? ⟨H,3,none⟩=some (.int .i64 0):=hR2.cell 3;have p3:=hR2.free 3;have x3:w5.cell? ⟨T,3,none⟩=some (.int .i64 k.num):=htk.cell 3;have r3:w5.cell? ⟨H,3,none⟩=some (.int .i64 0):=hR.cell 3;have o3:=hR.free 3;have z4:(w5.setCell ⟨T,2,none⟩ (.int .i64 (c:Nat))).cell? ⟨T,4,none⟩=some (.float .f64 k.flt):=htk2.cell 4;have q4:(w5.setCell ⟨T,2,none⟩ (.int .i64 (c:Nat))).cell? ⟨H,4,none⟩=some (.float .f64 0):=hR2.cell 4;have p4:=hR2.free 4;have x4:w5.cell? ⟨T,4,none⟩=some (.float .f64 k.flt):=htk.cell 4;have r4:w5.cell? ⟨H,4,none⟩=some (.float .f64 0):=hR.cell 4;have o4:=hR.free 4;have z5:(w5.setCell ⟨T,2,none⟩ (.int .i64 (c:Nat))).cell? ⟨T,5,none⟩=some (.string ⟨k.str.toArray⟩):=htk2.cell 5;have q5:(w5.setCell ⟨T,2,none⟩ (.int .i64 (c:Nat))).cell? ⟨H,5,none⟩=some (.string ⟨#[]⟩):=hR2.cell 5;have p5:=hR2.free 5;have x5:w5.cell? ⟨T,5,none⟩=some (.string ⟨k.str.toArray⟩):=htk.cell 5;have r5:w5.cell? ⟨H,5,none⟩=some (.string ⟨#[]⟩):=hR.cell 5;have o5:=hR.free 5;have hR2':=hR2;clear htk2 hR hR2 htk;go_wp2_with fail
    change bodyPost _ _ _ _ _ (putTok (w5.setCell ⟨T,2,none⟩ (.int .i64 (c:Nat))) H { k with next:=c })
    have g1:=hR2'.putTok { k with next:=c }
    have g2:=hlx2.putTok hbH { k with next:=c }
    have g3:=hF2.putTok (H:=H) (by omega) { k with next:=c }
    clear hlx2 hF2 z0 z1 z2 z3 z4 z5 q0 q1 q2 q3 q4 q5 p0 p1 p2 p3 p4 p5 x0 x1 x2 x3 x4 x5 r0 r1 r2 r3 r4 r5 o0 o1 o2 o3 o4 o5 y2;generalize putTok (w5.setCell ⟨T,2,none⟩ (.int .i64 (c:Nat))) H { k with next:=c }=WX at *
    have v0:WX.cell? ⟨H,0,none⟩=some (.int .i64 k.kind):=g1.cell 0;have v1:WX.cell? ⟨H,1,none⟩=some (.int .i64 k.pos):=g1.cell 1;have v2:WX.cell? ⟨H,2,none⟩=some (.int .i64 (c:Nat)):=g1.cell 2;have v3:WX.cell? ⟨H,3,none⟩=some (.int .i64 k.num):=g1.cell 3;have v4:WX.cell? ⟨H,4,none⟩=some (.float .f64 k.flt):=g1.cell 4;have v5:WX.cell? ⟨H,5,none⟩=some (.string ⟨k.str.toArray⟩):=g1.cell 5;refine bodyPost_ret (v:=.tuple #[.agg (tokCells { k with next:=c }),.int .i64 r.2]) (by simp[results,Tryz.results61,go_sem,tokCells,v0,v1,v2,v3,v4,v5]) rfl ?_
    exact⟨{ k with next:=c },c,by rw[HR2.out],HPo.out,g2,hc,g3,fun h=>by rw[HR2.out]at h ⊢;have h3:=HK.out h;rw[←h3];exact⟨rfl,rfl⟩⟩
  ·rw[hd]at HD hr;have HD:=zh HD;have hfd:=HGD.out isDig hd;clear hd HGD;rw[if_pos rfl]at hr;have HN:=zh (fun w (h1:LexAt b s a w) (h2:TokAt T ⟨1,a,0,0,0,[]⟩ w) (h3:EnvB B w)=>lnumber_any s hs a b T B hfl hbT hBb hBT w h1 h2 h3 hfd);generalize numS s.data.toList a=r at *;have HR2:=zh hr;clear hr;go_wp2_with fail
   go_quiet (fail)
   replace hlx:=hlx.drewN nq;replace htk:=htk.drewN nq;replace hFr:=hFr.drewN nq;replace hR:=hR.drewN nq;replace hE1:=hE1.drewN nq;clear l0 l1;generalize W2.drewN nq=W3 at *;have l0:=hlx.c0;have l1:=hlx.c1;go_wp2_with fail
   go_quiet (refine Calls.quiet_of_same ((HD.out _).mono fun _ _ h=>⟨h.1,h.2.symm⟩))
   replace hlx:=hlx.drewN nq;replace htk:=htk.drewN nq;replace hFr:=hFr.drewN nq;replace hR:=hR.drewN nq;replace hE1:=hE1.drewN nq;clear l0 l1;generalize W3.drewN nq=W4 at *;have l0:=hlx.c0;have l1:=hlx.c1;go_wp2_with fail
   refine(HN.out _ hlx htk hE1).mono ?_;intro e w5 hrd;obtain⟨k,c,rfl,hf5,htk5,hlx5,hc,hp,hk⟩:=hrd.out;have HK:=zh hk;have HPo:=zh hp;clear hk hp hrd l0 l1 htk hlx;have htk:=htk5;have hlx:=hlx5;clear htk5 hlx5;replace hR:=hR.kept hf5 (by simp;omega);replace hFr:=hFr.less hf5 (by omega);have l0:=hlx.c0;have l1:=hlx.c1;have htk2:=htk.set (k':={ k with next:=c }) 2 (.int .i64 (c:Nat)) rfl
   have hlx2:=hlx.other ⟨T,2,none⟩ (.int .i64 (c:Nat)) hbT;have hR2:=hR.other ⟨T,2,none⟩ (.int .i64 (c:Nat)) hHT;have hF2:=hFr.putNew ⟨T,2,none⟩ (by show w.heap.size≤T;omega) (.int .i64 (c:Nat));have y2:=htk.free 2;have hTH:T≠H:=Ne.symm hHT;have z0:(w5.setCell ⟨T,2,none⟩ (.int .i64 (c:Nat))).cell? ⟨T,0,none⟩=some (.int .i64 k.kind):=htk2.cell 0;have q0:(w5.setCell ⟨T,2,none⟩ (.int .i64 (c:Nat))).cell? ⟨H,0,none⟩=some (.int .i64 0):=hR2.cell 0;have p0:=hR2.free 0;have x0:w5.cell? ⟨T,0,none⟩=some (.int .i64 k.kind):=htk.cell 0;have r0:w5.cell? ⟨H,0,none⟩=some (.int .i64 0):=hR.cell 0;have o0:=hR.free 0;have z1:(w5.setCell ⟨T,2,none⟩ (.int .i64 (c:Nat))).cell? ⟨T,1,none⟩=some (.int .i64 k.pos):=htk2.cell 1;have q1:(w5.setCell ⟨T,2,none⟩ (.int .i64 (c:Nat))).cell? ⟨H,1,none⟩=some (.int .i64 0):=hR2.cell 1;have p1:=hR2.free 1;have x1:w5.cell? ⟨T,1,none⟩=some (.int .i64 k.pos):=htk.cell 1;have r1:w5.cell? ⟨H,1,none⟩=some (.int .i64 0):=hR.cell 1;have o1:=hR.free 1;have z2:(w5.setCell ⟨T,2,none⟩ (.int .i64 (c:Nat))).cell? ⟨T,2,none⟩=some (.int .i64 (c:Nat)):=htk2.cell 2;have q2:(w5.setCell ⟨T,2,none⟩ (.int .i64 (c:Nat))).cell? ⟨H,2,none⟩=some (.int .i64 0):=hR2.cell 2;have p2:=hR2.free 2;have x2:w5.cell? ⟨T,2,none⟩=some (.int .i64 k.next):=htk.cell 2
   have r2:w5.cell? ⟨H,2,none⟩=some (.int .i64 0):=hR.cell 2;have o2:=hR.free 2;have z3:(w5.setCell ⟨T,2,none⟩ (.int .i64 (c:Nat))).cell? ⟨T,3,none⟩=some (.int .i64 k.num):=htk2.cell 3;have q3:(w5.setCell ⟨T,2,none⟩ (.int .i64 (c:Nat))).cell? ⟨H,3,none⟩=some (.int .i64 0):=hR2.cell 3;have p3:=hR2.free 3;have x3:w5.cell? ⟨T,3,none⟩=some (.int .i64 k.num):=htk.cell 3;have r3:w5.cell? ⟨H,3,none⟩=some (.int .i64 0):=hR.cell 3;have o3:=hR.free 3;have z4:(w5.setCell ⟨T,2,none⟩ (.int .i64 (c:Nat))).cell? ⟨T,4,none⟩=some (.float .f64 k.flt):=htk2.cell 4;have q4:(w5.setCell ⟨T,2,none⟩ (.int .i64 (c:Nat))).cell? ⟨H,4,none⟩=some (.float .f64 0):=hR2.cell 4;have p4:=hR2.free 4;have x4:w5.cell? ⟨T,4,none⟩=some (.float .f64 k.flt):=htk.cell 4;have r4:w5.cell? ⟨H,4,none⟩=some (.float .f64 0):=hR.cell 4;have o4:=hR.free 4;have z5:(w5.setCell ⟨T,2,none⟩ (.int .i64 (c:Nat))).cell? ⟨T,5,none⟩=some (.string ⟨k.str.toArray⟩):=htk2.cell 5;have q5:(w5.setCell ⟨T,2,none⟩ (.int .i64 (c:Nat))).cell? ⟨H,5,none⟩=some (.string ⟨#[]⟩):=hR2.cell 5;have p5:=hR2.free 5;have x5:w5.cell? ⟨T,5,none⟩=some (.string ⟨k.str.toArray⟩):=htk.cell 5;have r5:w5.cell? ⟨H,5,none⟩=some (.string ⟨#[]⟩):=hR.cell 5;have o5:=hR.free 5;have hR2':=hR2;clear htk2 hR hR2 htk;go_wp2_with fail
   change bodyPost _ _ _ _ _ (putTok (w5.setCell ⟨T,2,none⟩ (.int .i64 (c:Nat))) H { k with next:=c })
   have g1:=hR2'.putTok { k with next:=c }
   have g2:=hlx2.putTok hbH { k with next:=c }
   have g3:=hF2.putTok (H:=H) (by omega) { k with next:=c }
   clear hlx2 hF2 z0 z1 z2 z3 z4 z5 q0 q1 q2 q3 q4 q5 p0 p1 p2 p3 p4 p5 x0 x1 x2 x3 x4 x5 r0 r1 r2 r3 r4 r5 o0 o1 o2 o3 o4 o5 y2;generalize putTok (w5.setCell ⟨T,2,none⟩ (.int .i64 (c:Nat))) H { k with next:=c }=WX at *
   have v0:WX.cell? ⟨H,0,none⟩=some (.int .i64 k.kind):=g1.cell 0;have v1:WX.cell? ⟨H,1,none⟩=some (.int .i64 k.pos):=g1.cell 1;have v2:WX.cell? ⟨H,2,none⟩=some (.int .i64 (c:Nat)):=g1.cell 2;have v3:WX.cell? ⟨H,3,none⟩=some (.int .i64 k.num):=g1.cell 3;have v4:WX.cell? ⟨H,4,none⟩=some (.float .f64 k.flt):=g1.cell 4;have v5:WX.cell? ⟨H,5,none⟩=some (.string ⟨k.str.toArray⟩):=g1.cell 5;refine bodyPost_ret (v:=.tuple #[.agg (tokCells { k with next:=c }),.int .i64 r.2]) (by simp[results,Tryz.results61,go_sem,tokCells,v0,v1,v2,v3,v4,v5]) rfl ?_
   exact⟨{ k with next:=c },c,by rw[HR2.out],HPo.out,g2,hc,g3,fun h=>by rw[HR2.out]at h ⊢;have h3:=HK.out h;rw[←h3];exact⟨rfl,rfl⟩⟩
end
section
open Go.RowKit
theorem tokCells_mk (k:Tk):tokCells k=#[.int .i64 k.kind,.int .i64 k.pos,.int .i64 k.next,.int .i64 k.num,.float .f64 k.flt,.string ⟨k.str.toArray⟩]:=rfl
def wordS (l:List UInt8):Bool:=(l==[116,114,117,101])||(l==[102,97,108,115,101])||(l==[110,97,110])||(l==[105,110,102])||(l==[108,101,110])||(l==[102,108,111,97,116])||(l==[105,110,116])||(l==[115,116,114])
theorem word_any (l:List UInt8) (w:World):Calls Tryz.prog 77 #[.string ⟨l.toArray⟩] w fun e w'=>e=.returned (.bool (wordS l))∧w=w':=by
 have HW:=zh (wordS.eq_def l);cases e0:(l==[116,114,117,101])
 ·cases e1:(l==[102,97,108,115,101])
  ·cases e2:(l==[110,97,110])
   ·cases e3:(l==[105,110,102])
    ·cases e4:(l==[108,101,110])
     ·cases e5:(l==[102,108,111,97,116])
      ·cases e6:(l==[105,110,116])
       ·cases e7:(l==[115,116,114])
        ·go_in;go_wp2
         go_ret;exact⟨ret_val (by rw[HW.out,e0,e1,e2,e3,e4,e5,e6,e7];rfl),rfl⟩
        ·go_in;go_wp2
         go_ret;exact⟨ret_val (by rw[HW.out,e0,e1,e2,e3,e4,e5,e6,e7];rfl),rfl⟩
       ·go_in;go_wp2
        go_ret;exact⟨ret_val (by rw[HW.out,e0,e1,e2,e3,e4,e5,e6];rfl),rfl⟩
      ·go_in;go_wp2
       go_ret;exact⟨ret_val (by rw[HW.out,e0,e1,e2,e3,e4,e5];rfl),rfl⟩
     ·go_in;go_wp2
      go_ret;exact⟨ret_val (by rw[HW.out,e0,e1,e2,e3,e4];rfl),rfl⟩
    ·go_in;go_wp2
     go_ret;exact⟨ret_val (by rw[HW.out,e0,e1,e2,e3];rfl),rfl⟩
   ·go_in;go_wp2
    go_ret;exact⟨ret_val (by rw[HW.out,e0,e1,e2];rfl),rfl⟩
  ·go_in;go_wp2
   go_ret;exact⟨ret_val (by rw[HW.out,e0,e1];rfl),rfl⟩
 ·go_in;go_wp2
  go_ret;exact⟨ret_val (by rw[HW.out,e0];rfl),rfl⟩
end
section
open Go
theorem marks_len:∀ (n:Nat) (l:List UInt8),l.length≤n→∀ w k,inMarks l=.ok (w,k)→1≤k∧k≤l.length
 | 0,l,hl,w,k,h=>by
  have:l=[]:=List.length_eq_zero_iff.1 (by omega);subst this;cases h
 | n+1,l,hl,w,k,h=>by
  rcases l with _|⟨c,r⟩
  ·cases h
  ·rw[inMarks.eq_def]at h;dsimp only at h;by_cases h1:c=34
   ·rw[if_pos h1]at h;cases h
    simp
   ·rw[if_neg h1]at h;by_cases h2:c=92
    ·rw[if_pos h2]at h;rcases r with _|⟨d,q⟩
     ·cases h
     ·dsimp only at h;by_cases h3:d=34∨d=92
      ·rw[if_pos h3]at h;cases hm:inMarks q with
       | error e=>rw[hm]at h;cases h
       | ok x =>
        rw[hm]at h;cases h
        have:=marks_len n q (by simp at hl;omega) x.1 x.2 hm;simp;omega
      ·rw[if_neg h3]at h;cases h
    ·rw[if_neg h2]at h;cases hm:inMarks r with
     | error e=>rw[hm]at h;cases h
     | ok x =>
      rw[hm]at h;cases h
      have:=marks_len n r (by simp at hl;omega) x.1 x.2 hm;simp;omega
theorem marks_no0:∀ (n:Nat) (l:List UInt8),l.length≤n→inMarks l≠.error 0
 | 0,l,hl,h=>by
  have:l=[]:=List.length_eq_zero_iff.1 (by omega);subst this;cases h
 | n+1,l,hl,h=>by
  rcases l with _|⟨c,r⟩
  ·cases h
  ·rw[inMarks.eq_def]at h;dsimp only at h;by_cases h1:c=34
   ·rw[if_pos h1]at h;cases h
   ·rw[if_neg h1]at h;by_cases h2:c=92
    ·rw[if_pos h2]at h;rcases r with _|⟨d,q⟩
     ·cases h
     ·dsimp only at h;by_cases h3:d=34∨d=92
      ·rw[if_pos h3]at h;cases hm:inMarks q with
       | error e =>
        rw[hm]at h;cases h
        exact marks_no0 n q (by simp at hl;omega) hm
       | ok x=>rw[hm]at h;cases h
      ·rw[if_neg h3]at h;cases h
    ·rw[if_neg h2]at h;cases hm:inMarks r with
     | error e =>
      rw[hm]at h;cases h
      exact marks_no0 n r (by simp at hl;omega) hm
     | ok x=>rw[hm]at h;cases h
/-- what a token that was read is like -/
structure Good (l:List UInt8) (a:Nat) (k:Tk):Prop where
 pos:k.pos=a
 lt:a<k.next
 le:k.next≤l.length
 kind:k.kind≠1
theorem numS_good {l:List UInt8} {a:Nat} (ha:a<l.length) (hd:isDig (l.getD a 0)=true) (h:(numS l a).2=0):Good l a (numS l a).1:=by
 have hf:=far_go isDig ha hd;have hle:=far_le isDig l (a:=a) (by omega);revert h
 unfold numS;dsimp only;split
 ·rename_i hp;have hi:a+far isDig l a<l.length:=by
   rcases Nat.lt_or_ge (a+far isDig l a) l.length with g|g
   ·exact g
   ·rw[List.getElem?_eq_none g]at hp;cases hp
  split
  ·rename_i hm;have hi:a+far isDig l a+1<l.length:=by
    rcases Nat.lt_or_ge (a+far isDig l a+1) l.length with g|g
    ·exact g
    ·rw[List.getElem?_eq_none g]at hm;cases hm
   have hle2:=far_le isDig l (a:=a+far isDig l a+2) (by omega);split
   ·intro h;cases h
   ·intro _;exact⟨rfl,by show a<a+far isDig l a+2+_;omega,hle2,by show(3:Int)≠1;decide⟩
  ·have hle2:=far_le isDig l (a:=a+far isDig l a+1) (by omega);split
   ·intro h;cases h
   ·intro _;exact⟨rfl,by show a<a+far isDig l a+1+_;omega,hle2,by show(3:Int)≠1;decide⟩
 ·split
  ·intro h;cases h
  ·intro _;exact⟨rfl,by show a<a+far isDig l a;omega,hle,by show(2:Int)≠1;decide⟩
theorem nameS_good {l:List UInt8} {a:Nat} (ha:a<l.length) (hd:isNm (l.getD a 0)=true) (h:(nameS l a).2=0):Good l a (nameS l a).1:=by
 have hf:=far_go isNm ha hd;have hle:=far_le isNm l (a:=a) (by omega);revert h
 unfold nameS;dsimp only;split
 ·intro _;exact⟨rfl,by show a<a+far isNm l a;omega,hle,by show(3:Int)≠1;decide⟩
 ·split
  ·intro h;cases h
  ·intro _;exact⟨rfl,by show a<a+far isNm l a;omega,hle,by show(5:Int)≠1;decide⟩
theorem strS_good {l:List UInt8} {a:Nat} (ha:a<l.length) (h:(strS l a).2=0):Good l a (strS l a).1:=by
 revert h
 unfold strS;cases hm:inMarks (l.drop (a+1)) with
 | error e =>
  dsimp only;intro h;exfalso
  revert hm
  rw[h];intro hm;exact absurd hm (marks_no0 _ _ (Nat.le_refl _))
 | ok x =>
  obtain⟨w,n⟩:=x;have hn:=marks_len _ _ (Nat.le_refl _) w n hm;rw[List.length_drop]at hn;dsimp only;split
  ·intro h;cases h
  ·intro _;exact⟨rfl,by show a<a+1+n;omega,by show a+1+n≤_;omega,by show(4:Int)≠1;decide⟩
theorem signS_good {l:List UInt8} {a:Nat} (ha:a<l.length) (h:(signS l a).2=0):Good l a (signS l a).1:=by
 revert h
 unfold signS;split
 ·rename_i h2;intro _;have:=two_len h2;exact⟨rfl,by show a<a+2;omega,this,by show(6:Int)≠1;decide⟩
 ·split
  ·intro _;exact⟨rfl,by show a<a+1;omega,by show a+1≤_;omega,by show(6:Int)≠1;decide⟩
  ·intro h;cases h
/-- the text's end, a token, or an error -/
theorem tok_cases {l:List UInt8} {b:Nat} (hb:b≤l.length) (h:(tokS l b).2=0) :
  (b+far isBl l b=l.length∧tokS l b=(⟨1,l.length,l.length,0,0,[]⟩,0))∨(b+far isBl l b<l.length∧Good l (b+far isBl l b) (tokS l b).1):=by
 have hle:=far_le isBl l hb;revert h
 unfold tokS;dsimp only;generalize b+far isBl l b=a at *;by_cases h1:a=l.length
 ·rw[if_pos h1];intro _;exact .inl ⟨h1,by rw[h1]⟩
 ·rw[if_neg h1];have ha:a<l.length:=by omega
  intro h;refine .inr ⟨ha,?_⟩;by_cases h2:isDig (l.getD a 0)=true
  ·rw[if_pos h2]at h ⊢
   exact numS_good ha h2 h
  ·rw[if_neg h2]at h ⊢
   by_cases h3:isLet (l.getD a 0)=true
   ·rw[if_pos h3]at h ⊢
    exact nameS_good ha (by unfold isNm;rw[h3];rfl) h
   ·rw[if_neg h3]at h ⊢
    by_cases h4:l.getD a 0=34
    ·rw[if_pos h4]at h ⊢
     exact strS_good ha h
    ·rw[if_neg h4]at h ⊢
     exact signS_good ha h
/-- all tokens from a place on; or the first error, with its place -/
def allS (l:List UInt8):Nat→Nat→List Tk × Nat × Int
 | 0,_=>([],0,0)
 | f+1,b =>
  if (tokS l b).2≠0 then([],b+far isBl l b,(tokS l b).2)
  else if (tokS l b).1.kind=1 then([],0,0)
  else if (allS l f (tokS l b).1.next).2.2≠0 then allS l f (tokS l b).1.next
  else((tokS l b).1::(allS l f (tokS l b).1.next).1,0,0)
def preT (o:List Tk) (q:List Tk × Nat × Int):List Tk × Nat × Int:=if q.2.2≠0 then q else(o++q.1,q.2)
theorem preT_nil (q:List Tk × Nat × Int):preT [] q=q:=by unfold preT;split<;>simp
theorem preT_end (o:List Tk):preT o ([],0,0)=(o,0,0):=by simp[preT]
theorem preT_err (o:List Tk) {q:List Tk × Nat × Int} (h:q.2.2≠0):preT o q=q:=by unfold preT;rw[if_pos h]
theorem allS_err {l:List UInt8} {f b:Nat} (h:(tokS l b).2≠0):allS l (f+1) b=([],b+far isBl l b,(tokS l b).2):=by
 show(if _ then _ else _)=_
 rw[if_pos h]
theorem allS_end {l:List UInt8} {f b:Nat} (h:(tokS l b).2=0) (hk:(tokS l b).1.kind=1):allS l (f+1) b=([],0,0):=by
 show(if _ then _ else _)=_
 rw[if_neg (by simpa using h),if_pos hk]
theorem allS_zero {l:List UInt8}:∀ (f b:Nat),(allS l f b).2.2=0→(allS l f b).2.1=0
 | 0,_,_=>rfl
 | f+1,b,h=>by
  revert h
  show(if _ then _ else _:List Tk × Nat × Int).2.2=0→(if _ then _ else _:List Tk × Nat × Int).2.1=0
  split
  ·rename_i h1;intro h;exact absurd h h1
  ·split
   ·intro _;rfl
   ·split
    ·rename_i h1;intro h;exact absurd h h1
    ·intro _;rfl
theorem allS_go {l:List UInt8} {f b:Nat} (o:List Tk) (h:(tokS l b).2=0) (hk:(tokS l b).1.kind≠1):preT o (allS l (f+1) b)=preT (o++[(tokS l b).1]) (allS l f (tokS l b).1.next):=by
 have e:allS l (f+1) b=if (allS l f (tokS l b).1.next).2.2≠0 then allS l f (tokS l b).1.next else((tokS l b).1::(allS l f (tokS l b).1.next).1,0,0):=by
  show(if _ then _ else _)=_
  rw[if_neg (by simpa using h),if_neg hk]
 have hz:=allS_zero (l:=l) f (tokS l b).1.next
 rw[e];generalize allS l f (tokS l b).1.next=q at *
 by_cases h1:q.2.2≠0
 ·rw[if_pos h1,preT_err _ h1,preT_err _ h1]
 ·rw[if_neg h1];obtain⟨a,x,y⟩:=q;have hy:y=0:=by simpa using h1
  have hx:x=0:=hz hy;subst hy;subst hx;simp[preT]
/-- all of a text's tokens -/
def tokens (l:List UInt8):List Tk × Nat × Int:=if 2000<l.length then([],0,3) else allS l (l.length+1) 0
end
section
open Go Ieee
theorem dec_short:∀ (k n:Nat),n<10 ^ (k+1)→(Lib.decDigits n).length≤k+1
 | 0,n,h=>by rw[Lib.decDigits,dif_pos (by simpa using h)];simp
 | k+1,n,h=>by
  rw[Lib.decDigits];by_cases g:n<10
  ·rw[dif_pos g];simp
  ·rw[dif_neg g,List.length_append];have:=dec_short k (n / 10) (by rw[Nat.pow_succ]at h;omega);simp only[List.length_cons,List.length_nil];omega
theorem splitP_digs:∀ (a b:List UInt8),a.all isDig=true→splitP (a++112::b)=some (a,b)
 | [],b,_=>rfl
 | c::a,b,h=>by
  rw[List.all_cons,Bool.and_eq_true]at h;have hc:c≠112:=by intro e;subst e;exact absurd h.1 (by decide)
  rw[List.cons_append,splitP,if_neg hc,splitP_digs a b h.2];rfl
theorem head_dig {l:List UInt8} {c:UInt8} {r:List UInt8} (h:l=c::r) (hd:isDig c=true):isNeg l=false∧unNeg l=l:=by
 have hc:c≠45:=by intro e;subst e;exact absurd hd (by decide)
 have h1:isNeg l=false:=by unfold isNeg;rw[h];simp[hc]
 exact⟨h1,by unfold unNeg;rw[h1];rfl⟩
theorem itoa_split (e:Int):isNeg (Lib.itoa e)=decide (e<0)∧unNeg (Lib.itoa e)=Lib.decDigits e.natAbs:=by
 by_cases h:e<0
 ·unfold Lib.itoa;rw[if_pos h,decide_eq_true h];exact⟨rfl,rfl⟩
 ·unfold Lib.itoa;rw[if_neg h,decide_eq_false h];obtain⟨c,r,hc,hd⟩:=dec_head e.toNat;obtain⟨h1,h2⟩:=head_dig hc hd;refine⟨h1,?_⟩;rw[h2];congr 1;omega
theorem rung_txt {r:Nat} (h0:r≠0) (h:r<9218868437227405312):Fl.rungOf (txtN r) (txtE r)=r:=by
 obtain⟨ho,hl,hr,hm⟩:=txt_bounds h0 h;have hl2:=Fl.log2_lt53 (show txtN r≠0 by omega) hl;obtain⟨a,b⟩:=Fl.rungOf_spec (p:=txtE r) (show txtN r≠0 by omega) hl hr.1;apply Fl.M_inj
 unfold Fl.M;have hla:Fl.lastOf (txtN r) (txtE r)≤txtE r:=by have:=hr.1;unfold Fl.lastOf;omega
 have hlb : -1074≤Fl.lastOf (txtN r) (txtE r):=by unfold Fl.lastOf;omega
 rw[a,Nat.mul_assoc,←Nat.pow_add];have e1:(txtE r - Fl.lastOf (txtN r) (txtE r)).toNat+Fl.plc (Fl.rungOf (txtN r) (txtE r))=tz (Fl.mag r)+Fl.plc r:=by
  unfold txtE at *;omega
 rw[e1,Nat.pow_add,←Nat.mul_assoc,hm]
theorem odd_self {n:Nat} (h:n % 2=1) (hl:n<18446744073709551616):odd n=n∧tz n=0:=odd_of h (by simp) hl
theorem parse_num_text (s:Bool) (n:Nat) (e:Int) (hn:n≤9007199254740992) (he : -9999≤e∧e≤9999) :
  parseB ((if s then [45] else [])++(Lib.decDigits n++112::Lib.itoa e))=(exB s n e,exE n e):=by
 obtain⟨c,r,hc,hd⟩:=dec_head n;have hl:isNeg ((if s then [45] else [])++(Lib.decDigits n++112::Lib.itoa e))=s∧unNeg ((if s then [45] else [])++(Lib.decDigits n++112::Lib.itoa e))=Lib.decDigits n++112::Lib.itoa e:=by
  cases s
  ·exact head_dig (c:=c) (r:=r++112::Lib.itoa e) (by rw[hc];rfl) hd
  ·exact⟨rfl,rfl⟩
 have hne:¬ ((if s then [45] else [])++(Lib.decDigits n++112::Lib.itoa e)=[110,97,110]):=by
  intro h;cases s
  ·rw[hc]at h;simp only[Bool.false_eq_true,if_false,List.nil_append,List.cons_append,List.cons.injEq]at h;rw[h.1]at hd;exact absurd hd (by decide)
  ·simp only[if_true,List.cons_append,List.cons.injEq]at h;exact absurd h.1 (by decide)
 have hni:¬ (Lib.decDigits n++112::Lib.itoa e=[105,110,102]):=by
  intro h;rw[hc]at h;simp only[List.cons_append,List.cons.injEq]at h;rw[h.1]at hd;exact absurd hd (by decide)
 obtain⟨hs1,hs2⟩:=itoa_split e;have hd1:digsOK (Lib.decDigits n) 20=true:=by
  unfold digsOK;have:=dec_len n (by omega);rw[(dec_spec n).1];simp[(dec_spec n).2.2];omega
 have hd2:digsOK (Lib.decDigits e.natAbs) 4=true:=by
  unfold digsOK;have:=dec_short 3 e.natAbs (by omega);rw[(dec_spec _).1];simp[(dec_spec e.natAbs).2.2];omega
 unfold parseB;rw[if_neg hne,hl.1,hl.2,if_neg hni,splitP_digs _ _ (dec_spec n).1];simp only;rw[hs1,hs2,hd1,hd2,(dec_spec n).2.1,(dec_spec e.natAbs).2.1,if_pos (show(true&&true)=true from rfl),if_neg (show ¬ 9007199254740992<n by omega)];have hk:(if decide (e<0)=true then -((e.natAbs:Nat):Int) else(e.natAbs:Int))=e:=by
  by_cases h:e<0
  ·rw[if_pos (by simpa using h)];omega
  ·rw[if_neg (by simpa using h)];omega
 rw[hk]
/-- what is written is read as it was -/
theorem parse_text {b:Nat} (hb:F64 b):parseB (textB b)=(canon b,0):=by
 by_cases hn:Fl.isNaN b=true
 ·have h1:textB b=[110,97,110]:=by unfold textB;rw[hn];rfl
  have h2:canon b=9221120237041090560:=by unfold canon;rw[hn];rfl
  rw[h1,h2];rfl
 ·have hn':Fl.isNaN b=false:=by simpa using hn
  have hle:=nan_lt hn';have hcan:canon b=b:=by unfold canon;rw[if_neg (by rw[hn'];decide)]
  have hw:=Fl.word_of hb;rw[hcan];by_cases hi:Fl.rg b=9218868437227405312
  ·have h1:textB b=(if Fl.ng b then [45] else [])++[105,110,102]:=by unfold textB;rw[hn',if_pos hi];rfl
   rw[hi]at hw;rw[h1];cases hg:Fl.ng b
   ·rw[hg]at hw;rw[←hw];rfl
   ·rw[hg]at hw;rw[←hw];rfl
  ·by_cases h0:Fl.rg b=0
   ·have e0:Lib.decDigits 0=[48]:=by rw[Lib.decDigits];rfl
    have e1:Lib.itoa 0=[48]:=by unfold Lib.itoa;rw[if_neg (by omega),show(0:Int).toNat=0 from rfl,e0]
    have h1:textB b=(if Fl.ng b then [45] else [])++(Lib.decDigits 0++112::Lib.itoa 0):=by
     unfold textB;rw[hn',if_neg hi,if_pos h0,e0,e1];rfl
    rw[h1,parse_num_text _ _ _ (by omega) (by omega)];rw[h0]at hw;unfold exB exE;rw[if_pos rfl,if_pos rfl,hw]
   ·obtain⟨ho,hl,hr,_⟩:=txt_bounds h0 (show Fl.rg b<9218868437227405312 by omega);have h1:textB b=(if Fl.ng b then [45] else [])++(Lib.decDigits (txtN (Fl.rg b))++112::Lib.itoa (txtE (Fl.rg b))):=by
     unfold textB;rw[hn',if_neg hi,if_neg h0];rfl
    have h1a:=hr.1;have h1b:=hr.2;rw[h1,parse_num_text _ _ _ (by omega) (by omega)];obtain⟨o1,o2⟩:=odd_self ho (by omega);unfold exB exE;have hnz:¬ txtN (Fl.rg b)=0:=by omega
    rw[if_neg hnz,if_neg hnz,o1,o2,show txtE (Fl.rg b)+((0:Nat):Int)=txtE (Fl.rg b) from by omega,if_pos hr,if_pos hr,rung_txt h0 (by omega),hw]
end
section
open Go
theorem dig_bl {c:UInt8} (h:isDig c=true):isBl c=false:=by
 have h2:48≤c.toNat∧c.toNat≤57:=of_decide_eq_true h;unfold isBl;simp only[Bool.or_eq_false_iff,beq_eq_false_iff_ne];refine⟨⟨⟨?_,?_⟩,?_⟩,?_⟩<;>rintro rfl<;>simp at h2
theorem let_bl {c:UInt8} (h:isLet c=true):isBl c=false∧isDig c=false∧c≠34:=by
 have h2:97≤c.toNat∧c.toNat≤122:=of_decide_eq_true h;refine⟨?_,?_,?_⟩
 ·unfold isBl;simp only[Bool.or_eq_false_iff,beq_eq_false_iff_ne];refine⟨⟨⟨?_,?_⟩,?_⟩,?_⟩<;>rintro rfl<;>simp at h2
 ·unfold isDig;simp;omega
 ·rintro rfl;simp at h2
def escB (c:UInt8):List UInt8:=if c=34∨c=92 then [92,c] else [c]
def quoteB (l:List UInt8):List UInt8:=34::(l.flatMap escB++[34])
end
end Go.Proofs.YtaaaaggmhjhkkaaGreatDoor
