/-
  T1, T2, T3, T7, Na, E5, T8, T4 in one text.
-/
import Derived.Test.YtaaaaggmhjhkkaaGreatDoorS13
import Derived.Test.YtaaaaggmhjhkkaaGreatDoorCl
set_option maxRecDepth 100000
set_option maxHeartbeats 8000000
namespace Go.Proofs.YtaaaaggmhjhkkaaGreatDoor
section
open Go.RowKit
/-- the cells of an expression, so many deep; its blocks are all of the kind S -/
def ExIn (S:Nat→Prop) (w:World):Nat→ET→Array Value→Prop
 | 0,_,_=>False
 | d+1,x,cs=>∃ qn qi pn pk,cs=#[.int .i64 x.kind,.string ⟨x.str.toArray⟩,.int .i64 x.v.kind,.int .i64 x.v.num,.float .f64 x.v.flt,.string ⟨x.v.str.toArray⟩,qn,qi,pn,pk] ∧
   (-9223372036854775808≤x.kind∧x.kind≤9223372036854775807)∧x.str.length≤140737488355328 ∧
   (∃ dv,ValIn S w (dv+1) x.v #[.int .i64 x.v.kind,.int .i64 x.v.num,.float .f64 x.v.flt,.string ⟨x.v.str.toArray⟩,qn,qi])∧StrsIn S w x.names pn∧x.kids.length≤140737488355328 ∧
   ((x.kids=[]∧∃ p c,pk=.slice p 0 c)∨∃ g off cap,pk=.slice (some ⟨g,off,none⟩) x.kids.length cap∧(S g∧g<w.heap.size) ∧
    ∀ i,i<x.kids.length→∃ ds,ExIn S w d (x.kids.getD i noET) ds∧∀ j,j<10→w.cell? ⟨g,off+i*10+j,none⟩=ds[j]?)
theorem ExIn.kept {S T:Nat→Prop} {w w':World} (hs:w.heap.size≤w'.heap.size) (hk:∀ g,S g→g<w.heap.size→T g∧w'.heap[g]?=w.heap[g]?):∀ {d:Nat} {x:ET} {cs:Array Value},ExIn S w d x cs→ExIn T w' d x cs
 | 0,_,_,h=>h
 | d+1,x,cs,h=>by
  obtain⟨qn,qi,pn,pk,h1,h2,h3,⟨dv,h4⟩,h5,h6,h7⟩:=h;refine⟨qn,qi,pn,pk,h1,h2,h3,⟨dv,h4.kept hs hk⟩,h5.kept hs hk,h6,?_⟩;rcases h7 with h7|⟨g,off,cap,a1,a2,a3⟩
  ·exact .inl h7
  ·obtain⟨k1,k2⟩:=hk g a2.1 a2.2;refine .inr ⟨g,off,cap,a1,⟨k1,Nat.lt_of_lt_of_le a2.2 hs⟩,fun i hi=>?_⟩;obtain⟨ds,b1,b2⟩:=a3 i hi;exact⟨ds,ExIn.kept hs hk b1,fun j hj=>(cell_same k2).trans (b2 j hj)⟩
theorem ExIn.more {S:Nat→Prop} {w:World}:∀ {d:Nat} {x:ET} {cs:Array Value},ExIn S w d x cs→ExIn S w (d+1) x cs
 | 0,_,_,h=>h.elim
 | d+1,x,cs,h=>by
  obtain⟨qn,qi,pn,pk,h1,h2,h3,h4,h5,h6,h7⟩:=h;refine⟨qn,qi,pn,pk,h1,h2,h3,h4,h5,h6,?_⟩;rcases h7 with h7|⟨g,off,cap,a1,a2,a3⟩
  ·exact .inl h7
  ·refine .inr ⟨g,off,cap,a1,a2,fun i hi=>?_⟩;obtain⟨ds,b1,b2⟩:=a3 i hi;exact⟨ds,ExIn.more b1,b2⟩
theorem ExIn.upto {S:Nat→Prop} {w:World} {d e:Nat} {x:ET} {cs:Array Value} (h:ExIn S w d x cs) (hd:d≤e):ExIn S w e x cs:=by
 obtain⟨k,rfl⟩:∃ k,e=d+k:=⟨e - d,by omega⟩;clear hd;induction k with
 | zero=>exact h
 | succ k ih=>exact ih.more
theorem ExIn.fr {S:Nat→Prop} {w w':World} {l:List Nat} (hf:Fr l w w') (hS:∀ g ∈ l,¬ S g) {d:Nat} {x:ET} {cs:Array Value} (h:ExIn S w d x cs):ExIn S w' d x cs :=
 h.kept hf.size fun g hg hl=>⟨hg,hf.block g hl fun hm=>hS g hm hg⟩
/-- an expression, wherever it lies -/
abbrev ExAt' (w:World) (d:Nat) (x:ET) (cs:Array Value):Prop:=ExIn (fun _=>True) w d x cs
theorem ExIn.at' {S:Nat→Prop} {w:World} {d:Nat} {x:ET} {cs:Array Value} (h:ExIn S w d x cs):ExAt' w d x cs :=
 h.kept (Nat.le_refl _) fun _ _ _=>⟨trivial,rfl⟩
theorem ExIn.below {S:Nat→Prop} {w w':World} (hb:Below w.heap.size w w') {d:Nat} {x:ET} {cs:Array Value} (h:ExIn S w d x cs):ExIn S w' d x cs :=
 h.kept hb.size fun g hg hl=>⟨hg,hb.block g hl⟩
theorem ValIn.below {S:Nat→Prop} {w w':World} (hb:Below w.heap.size w w') {d:Nat} {v:VT} {cs:Array Value} (h:ValIn S w d v cs):ValIn S w' d v cs :=
 h.kept hb.size fun g hg hl=>⟨hg,hb.block g hl⟩
theorem StrsIn.below {S:Nat→Prop} {w w':World} (hb:Below w.heap.size w w') {l:List (List UInt8)} {v:Value} (h:StrsIn S w l v):StrsIn S w' l v :=
 h.kept hb.size fun g hg hl=>⟨hg,hb.block g hl⟩
/-- an expression behind a pointer -/
def PtrE (w:World) (d:Nat) (x:ET) (g o:Nat):Prop:=g<w.heap.size∧∃ cs,ExAt' w d x cs∧∀ j,j<10→w.cell? ⟨g,o+j,none⟩=cs[j]?
theorem PtrE.kept {w w':World} {d:Nat} {x:ET} {g o:Nat} (h:PtrE w d x g o) (hb:Below w.heap.size w w'):PtrE w' d x g o:=by
 obtain⟨hg,cs,h1,h2⟩:=h;exact⟨Nat.lt_of_lt_of_le hg hb.size,cs,h1.below hb,fun j hj=>(hb.cell (p:=⟨g,o+j,none⟩) hg).trans (h2 j hj)⟩
/-- what lies behind a pointer -/
structure PtrEx (w:World) (d:Nat) (x:ET) (g o:Nat) (qn qi pn:Value) (p:Option Addr) (cap:Nat):Prop where
 lt:g<w.heap.size
 c0:w.cell? ⟨g,o,none⟩=some (.int .i64 x.kind)
 c1:w.cell? ⟨g,o+1,none⟩=some (.string ⟨x.str.toArray⟩)
 c2:w.cell? ⟨g,o+2,none⟩=some (.int .i64 x.v.kind)
 c3:w.cell? ⟨g,o+3,none⟩=some (.int .i64 x.v.num)
 c4:w.cell? ⟨g,o+4,none⟩=some (.float .f64 x.v.flt)
 c5:w.cell? ⟨g,o+5,none⟩=some (.string ⟨x.v.str.toArray⟩)
 c6:w.cell? ⟨g,o+6,none⟩=some qn
 c7:w.cell? ⟨g,o+7,none⟩=some qi
 c8:w.cell? ⟨g,o+8,none⟩=some pn
 c9:w.cell? ⟨g,o+9,none⟩=some (.slice p x.kids.length cap)
 rng : -9223372036854775808≤x.kind∧x.kind≤9223372036854775807
 len:x.str.length≤140737488355328
 val:∃ dv,ValAt w (dv+1) x.v #[.int .i64 x.v.kind,.int .i64 x.v.num,.float .f64 x.v.flt,.string ⟨x.v.str.toArray⟩,qn,qi]
 strs:Strs w x.names pn
 many:x.kids.length≤140737488355328
 kid:∀ i,i<x.kids.length→∃ g' o',p=some ⟨g',o',none⟩∧g'<w.heap.size∧PtrE w d (x.kids.getD i noET) g' (o'+i*10)
theorem PtrE.open {w:World} {d:Nat} {x:ET} {g o:Nat} (h:PtrE w (d+1) x g o):∃ qn qi pn p cap,PtrEx w d x g o qn qi pn p cap:=by
 obtain⟨hg,cs,⟨qn,qi,pn,pk,rfl,h2,h3,⟨dv,h4⟩,h5,h6,h7⟩,hc⟩:=h;have x0:=hc 0 (by omega);have x1:=hc 1 (by omega);have x2:=hc 2 (by omega);have x3:=hc 3 (by omega);have x4:=hc 4 (by omega);have x5:=hc 5 (by omega);have x6:=hc 6 (by omega);have x7:=hc 7 (by omega);have x8:=hc 8 (by omega);have x9:=hc 9 (by omega);rcases h7 with ⟨h7,p,c,rfl⟩|⟨g',off,cap,rfl,hg',hi⟩
 ·exact⟨qn,qi,pn,p,c,⟨hg,x0,x1,x2,x3,x4,x5,x6,x7,x8,by rw[h7];exact x9,h2,h3,⟨dv,h4.at⟩,h5.at,h6,fun i hi=>by rw[h7]at hi;simp at hi⟩⟩
 ·refine⟨qn,qi,pn,_,cap,⟨hg,x0,x1,x2,x3,x4,x5,x6,x7,x8,x9,h2,h3,⟨dv,h4.at⟩,h5.at,h6,fun i h=>?_⟩⟩;obtain⟨ds,h9,h10⟩:=hi i h;exact⟨g',off,rfl,hg'.2,hg'.2,ds,h9,h10⟩
theorem PtrEx.v {w:World} {d:Nat} {x:ET} {g o:Nat} {qn qi pn:Value} {p:Option Addr} {cap:Nat} (h:PtrEx w d x g o qn qi pn p cap):∃ dv,PtrTo w (dv+1) x.v g (o+2):=by
 obtain⟨dv,hv⟩:=h.val;refine⟨dv,h.lt,_,hv,fun j hj=>?_⟩;rcases(by omega:j=0∨j=1∨j=2∨j=3∨j=4∨j=5)with rfl|rfl|rfl|rfl|rfl|rfl
 ·exact h.c2
 ·exact h.c3
 ·exact h.c4
 ·exact h.c5
 ·exact h.c6
 ·exact h.c7
/-- its ten cells -/
theorem ExIn.ten {S:Nat→Prop} {w:World} {d:Nat} {x:ET} {cs:Array Value} (h:ExIn S w d x cs):∃ na nl nc ia il ic ma ml mc ka kl kc,cs=#[.int .i64 x.kind,.string ⟨x.str.toArray⟩,.int .i64 x.v.kind,.int .i64 x.v.num,.float .f64 x.v.flt,.string ⟨x.v.str.toArray⟩,.slice na nl nc,.slice ia il ic,.slice ma ml mc,.slice ka kl kc]:=by
 cases d with
 | zero=>exact h.elim
 | succ d =>
  obtain⟨qn,qi,pn,pk,rfl,_,_,⟨dv,hv⟩,hs,_,hk⟩:=h;obtain⟨na,nl,nc,ia,il,ic,he⟩:=hv.six;simp only[Array.mk.injEq,List.cons.injEq,and_true]at he;obtain⟨p,cap,rfl⟩:=hs.at.lenOf;obtain⟨-,-,-,-,rfl,rfl⟩:=he;rcases hk with ⟨-,p2,c2,rfl⟩|⟨g,off,cap2,rfl,-⟩
  ·exact⟨_,_,_,_,_,_,_,_,_,_,_,_,rfl⟩
  ·exact⟨_,_,_,_,_,_,_,_,_,_,_,_,rfl⟩
/-- a box that holds it -/
theorem ExIn.box {S:Nat→Prop} {w:World} {d:Nat} {x:ET} {cs:Array Value} (h:ExIn S w d x cs) {w':World} {b:Nat} {T:TypeId} {fz:Nat × Nat} (hb:Below w.heap.size w w') (hg:w'.heap[b]?=some (.cells cs T fz)):PtrE w' d x b 0 :=
 ⟨lt_of_block hg,cs,h.at'.below hb,fun j hj=>by rw[zc hg,Nat.zero_add]⟩
end
section
open Go.RowKit
theorem countEL_stop {l:List ET} {m:Nat} (h:500≤m):countEL l m=m:=by
 cases l with
 | nil=>rw[countEL]
 | cons a l=>rw[countEL,if_pos h]
theorem countEL_drop {l:List ET} {i m:Nat} (hi:i<l.length) (h:m<500):countEL (l.drop i) m=countEL (l.drop (i+1)) (countE (l.getD i noET) m):=by
 have e:l.getD i noET=l[i]:=by simp[List.getD,hi]
 rw[List.drop_eq_getElem_cons hi,countEL,if_neg (by omega),e]
theorem countEL_end {l:List ET} {i m:Nat} (hi:l.length≤i):countEL (l.drop i) m=m:=by
 rw[List.drop_eq_nil_of_le hi,countEL]
theorem pcounted_any:∀ (d:Nat) (x:ET) (g o:Nat) (n:Nat) (w:World),PtrE w d x g o→n<500 →
  Calls Tryz.prog 26 #[.pointer (some ⟨g,o,none⟩),.int .i64 (n:Int)] w fun e w'=>e=.returned (.int .i64 (countE x n:Nat))∧w=w'
 | 0,_,_,_,_,_,h,_=>by obtain⟨_,_,h,_⟩:=h;exact h.elim
 | d+1,x,g,o,n,w,h,hn=>by
  have ih:=zh (pcounted_any d);have hcv:countE x n=countEL x.kids (n+1):=by cases x;rw[countE];rfl
  have HCV:=zh hcv;clear hcv;obtain⟨qn,qi,pn,p,cap,hx⟩:=h.open
  have x9:=hx.c9;have hg:=hx.lt;have H9:=zh hx.kid;have hmany:=hx.many;clear hx h;generalize x.kids=its at *;generalize hN:its.length=N at *;have HN:=zh hN;clear hN;go_in;go_wp2_with fail
  go_loop [1,13] (fun mv iv=>∃ i m:Nat,i≤N∧m≤500∧mv=.int .i64 m∧iv=.int .i64 i∧Hid (countE x n=countEL (its.drop i) m)) (fun _ iv=>N - (intOf iv).toNat)
  case atStart=>exact⟨0,n+1,by omega,by omega,by go_num,rfl,by show _=_;rw[List.drop_zero,HCV.out]⟩
  case round =>
   obtain⟨i,m,hi,hm,rfl,rfl,hcn⟩:=hrel;by_cases hlt:i<N
   ·have t0:decide ((i:Int)<(N:Int))=true:=by simp;omega
    by_cases h5:m<500
    ·have t1:decide ((500:Int)≤(m:Int))=false:=by simp;omega
     obtain⟨g',o',rfl,hg',hv⟩:=H9.out i hlt;have HC:=zh (ih.out _ _ _ m w hv h5);have hdn:=countEL_drop (l:=its) (i:=i) (m:=m) (by rw[HN.out];exact hlt) h5;have HD:=zh hdn;have hle:=countE_le (its.getD i noET) m h5;generalize its.getD i noET=k at *;generalize countE k m=m2 at *;have b1:(0:Int)≤(i:Int):=by omega
     have b2:(i:Int)<(N:Int):=by omega
     clear hdn hv;go_wp2_with fail
     refine(HC.out).mono ?_;rintro e w5 ⟨rfl,rfl⟩;go_wp2_with fail
     go_round
     case rel=>exact⟨i+1,m2,by omega,hle.1,rfl,by go_num,by show _=_;rw[hcn.out,HD.out]⟩
     case measure=>simp[intOf];omega
    ·have t1:decide ((500:Int)≤(m:Int))=true:=by simp;omega
     have HF:=zh (countEL_stop (l:=its.drop i) (m:=m) (by omega));go_wp2_with fail
     go_ret;exact⟨ret_val (by rw[hcn.out,HF.out];rfl),rfl⟩
   ·have t0:decide ((i:Int)<(N:Int))=false:=by simp;omega
    have HF:=zh (countEL_end (l:=its) (i:=i) (m:=m) (by rw[HN.out];omega));go_wp2_with fail
    go_ret;exact⟨ret_val (by rw[hcn.out,HF.out];rfl),rfl⟩
theorem pParts_any (d:Nat) (x:ET) (cs:Array Value) (w:World) (h:ExAt' w d x cs):Calls Tryz.prog 12 #[.agg cs] w (Gives (.int .i64 (countE x 0:Nat)) w):=by
 have hB:Below w.heap.size w (w.alloc (.cells cs 29)):=(Below.refl _ _).alloc (Nat.le_refl _) _;have HC:=zh (pcounted_any d x _ 0 0 _ (h.box hB (heap_alloc_new w _)) (by omega));obtain⟨na,nl,nc,ia,il,ic,ma,ml,mc,ka,kl,kc,rfl⟩:=h.ten;clear h;go_in;go_wp2_with fail
 refine(HC.out).mono ?_;rintro e w2 ⟨rfl,rfl⟩;go_wp2_with fail
 go_ret;exact⟨rfl,hB⟩
/-- kinds that are the parse's -/
theorem pkids_any (k:Int) (w:World):Calls Tryz.prog 51 #[.int .i64 k] w fun e w'=>e=.returned (.int .i64 (wantsE k))∧w=w':=by
 have step:∀ (P:Prop) (_:P→Calls Tryz.prog 51 #[.int .i64 k] w fun e w'=>e=.returned (.int .i64 (wantsE k))∧w=w'),P→Calls Tryz.prog 51 #[.int .i64 k] w fun e w'=>e=.returned (.int .i64 (wantsE k))∧w=w':=fun _ f h=>f h
 by_cases c:1≤k∧k≤23
 ·have hk:k=1∨k=2∨k=3∨k=4∨k=5∨k=6∨k=7∨k=8∨k=9∨k=10∨k=11∨k=12∨k=13∨k=14∨k=15∨k=16∨k=17∨k=18∨k=19∨k=20∨k=21∨k=22∨k=23:=by omega
  clear c step;rcases hk with rfl|rfl|rfl|rfl|rfl|rfl|rfl|rfl|rfl|rfl|rfl|rfl|rfl|rfl|rfl|rfl|rfl|rfl|rfl|rfl|rfl|rfl|rfl;all_goals
   go_in;go_wp2_with fail
   go_ret;exact⟨rfl,rfl⟩
 ·have hw:wantsE k = -2:=by
   unfold wantsE;rw[if_neg (by omega),if_neg (by omega),if_neg (by omega),if_neg (by omega),if_neg (by omega)]
  have HW:=zh hw;clear hw step;have t1:(k==1)=false:=beq_eq_false_iff_ne.2 (by omega);have t2:(k==2)=false:=beq_eq_false_iff_ne.2 (by omega);have t3:(k==3)=false:=beq_eq_false_iff_ne.2 (by omega);have t4:(k==4)=false:=beq_eq_false_iff_ne.2 (by omega);have t15:(k==15)=false:=beq_eq_false_iff_ne.2 (by omega);have t16:(k==16)=false:=beq_eq_false_iff_ne.2 (by omega);have t17:(k==17)=false:=beq_eq_false_iff_ne.2 (by omega);have t18:(k==18)=false:=beq_eq_false_iff_ne.2 (by omega);have t19:(k==19)=false:=beq_eq_false_iff_ne.2 (by omega);by_cases c2:k<1
  ·have a1:decide ((20:Int)≤k)=false:=by simp;omega
   have a2:decide ((5:Int)≤k)=false:=by simp;omega
   clear c c2;go_in;go_wp2_with fail
   go_ret;exact⟨ret_val (by rw[HW.out]<;>rfl),rfl⟩
  ·have a1:decide ((20:Int)≤k)=true:=by simp;omega
   have a2:decide ((5:Int)≤k)=true:=by simp;omega
   have a3:decide (k≤23)=false:=by simp;omega
   have a4:decide (k≤14)=false:=by simp;omega
   clear c c2;go_in;go_wp2_with fail
   go_ret;exact⟨ret_val (by rw[HW.out]<;>rfl),rfl⟩
theorem pfield_any (s:ByteArray) (w:World):Calls Tryz.prog 78 #[.string s] w (Gives (.bool (fieldB s.toList)) w):=by
 have HN:=vname_any s w;have HF:=fieldB.eq_1 s.toList;rw[←ByteArray.toList_eq]at HN;generalize nmB s.toList=b at *;cases b
 ·have HF:=zh HF;have HN:=zh HN;go_in;go_wp2_with fail
  refine(HN.out).mono ?_;rintro e w2 ⟨rfl,hb2⟩;go_wp2_with fail
  go_ret;exact⟨ret_val (by rw[HF.out];rfl),hb2⟩
 ·rw[Bool.true_and]at HF;have HF:=zh HF;have HN:=zh HN;go_in;go_wp2_with fail
  refine(HN.out).mono ?_;rintro e w2 ⟨rfl,hb2⟩;go_wp2_with fail
  all_goals
   go_ret;exact⟨ret_val (by rw[HF.out];first|rfl|(simp[*])),hb2⟩
end
section
open Go.RowKit
theorem flt_ord {a b:Nat} (h:Fl.flt a b=true):ordB a b = -1:=by
 rw[←ordF_eq];have hn:Fl.isNaN a=false∧Fl.isNaN b=false:=by
  unfold Fl.flt at h;simp only[Bool.and_eq_true,Bool.not_eq_true']at h;exact h.1
 have ha:rank1 a=0:=by unfold rank1;rw[hn.1];rfl
 have hb:rank1 b=0:=by unfold rank1;rw[hn.2];rfl
 unfold ordF;rw[ha,hb,h];rfl
theorem noneV_no {v:VT} (h:v.kind≠0):noneV v=false:=by unfold noneV;rw[decide_eq_false h];rfl
theorem noneV_at {v:VT} (h:v.kind=0):noneV v=bareV v false false false false:=by unfold noneV;rw[decide_eq_true h];rfl
theorem pnothing_any (d:Nat) (v:VT) (g o:Nat) (w:World) (h:PtrTo w (d+1) v g o) :
  Calls Tryz.prog 54 #[.pointer (some ⟨g,o,none⟩)] w fun e w'=>e=.returned (.bool (noneV v))∧w=w':=by
 by_cases hk:v.kind=0
 ·rw[noneV_at hk];exact nothing_any d v g o w h hk
 ·rw[noneV_no hk];obtain⟨pn,p,cap,hg,x0,x1,x2,x3,x4,x5,h4,h5,h6,h7,h9⟩:=h.open
  clear h9 h5 h6 h7 h hg h4;have t1:(v.kind==0)=false:=beq_eq_false_iff_ne.2 hk;clear hk;go_in;go_wp2_with fail
  go_ret;exact⟨rfl,rfl⟩
theorem pconstant_any (d:Nat) (v:VT) (cs:Array Value) (w:World) (h:ValAt w d v cs):Calls Tryz.prog 53 #[.agg cs] w (Gives (.bool (constB v)) w):=by
 obtain⟨pn,p,cap,rfl⟩:=h.six;have hf:F64 v.flt:=by cases d with|zero=>exact h.elim|succ d=>obtain⟨_,_,_,_,_,h4,_⟩:=h;exact h4
 have hB:Below w.heap.size w (w.alloc (.cells #[.int .i64 v.kind,.int .i64 v.num,.float .f64 v.flt,.string ⟨v.str.toArray⟩,pn,.slice p v.items.length cap] 26)):=(Below.refl _ _).alloc (Nat.le_refl _) _;have hnew:(w.alloc (.cells #[.int .i64 v.kind,.int .i64 v.num,.float .f64 v.flt,.string ⟨v.str.toArray⟩,pn,.slice p v.items.length cap] 26)).heap[w.heap.size]?=some (.cells #[.int .i64 v.kind,.int .i64 v.num,.float .f64 v.flt,.string ⟨v.str.toArray⟩,pn,.slice p v.items.length cap] 26 (0,0)):=heap_alloc_new w _;have HR:=zh (vRight_any d v _ _ (h.kept hB));have HO:=zh (fun w=>order_any v.flt 0 hf (by unfold F64;omega) w);have HC:=constB.eq_1 v;have fin:∀ (b:Bool) (e:Ending) (w2:World),Gives (.bool b) (w.alloc (.cells #[.int .i64 v.kind,.int .i64 v.num,.float .f64 v.flt,.string ⟨v.str.toArray⟩,pn,.slice p v.items.length cap] 26)) e w2→Gives (.bool b) w e w2:=fun _ _ _ h=>⟨h.1,hB.trans (h.2.mono hB.size)⟩
 have HF:=zh fin;clear fin h hf;have c0:=zc hnew 0;have c1:=zc hnew 1;have c2:=zc hnew 2;have c3:=zc hnew 3;have c4:=zc hnew 4;have c5:=zc hnew 5;simp only[List.getElem?_toArray,List.getElem?_cons_zero,List.getElem?_cons_succ]at c0 c1 c2 c3 c4 c5;clear hnew;have k1':∀ n:Int,(v.kind==n)=decide (v.kind=n):=fun n=>rfl
 by_cases k2:v.kind=2
 ·have e2:(v.kind==2)=true:=by rw[k2];rfl
  rw[if_neg (by omega),if_pos k2]at HC;by_cases hn:v.num<0
  ·have t1:decide (v.num<0)=true:=by simp;omega
   rw[decide_eq_false (by omega:¬ 0≤v.num),Bool.and_false]at HC;have HC:=zh HC;clear k2 hn k1';go_in;go_wp2_with fail
   go_ret;exact⟨ret_val (by rw[HC.out]<;>rfl),hB⟩
  ·have t1:decide (v.num<0)=false:=by simp;omega
   rw[decide_eq_true (by omega:0≤v.num),Bool.and_true]at HC;have HC:=zh HC;clear k2 hn k1';go_in;go_wp2_with fail
   refine(HR.out).mono ?_;rintro e w2 hg2;obtain⟨rfl,hb2⟩:=HF.out _ _ _ hg2;go_wp2_with fail
   go_ret;exact⟨ret_val (by rw[HC.out]<;>rfl),hb2⟩
 have e2:(v.kind==2)=false:=beq_eq_false_iff_ne.2 k2;by_cases k3:v.kind=3
 ·have e3:(v.kind==3)=true:=by rw[k3];rfl
  rw[if_neg (by omega),if_neg (by omega),if_pos k3]at HC;cases hl:Fl.flt v.flt 0
  ·rw[←ord_lt]at hl;by_cases ho:ordB v.flt 0<0
   ·have t1:decide (ordB v.flt 0<0)=true:=by simp;omega
    rw[decide_eq_false (by omega:¬ 0≤ordB v.flt 0),Bool.and_false]at HC;have HC:=zh HC;clear k2 k3 k1' ho;go_in;go_wp2_with fail
    refine(HO.out _).mono ?_;rintro e w2 ⟨rfl,rfl⟩;go_wp2_with fail
    go_ret;exact⟨ret_val (by rw[HC.out]<;>rfl),hB⟩
   ·have t1:decide (ordB v.flt 0<0)=false:=by simp;omega
    rw[decide_eq_true (by omega:0≤ordB v.flt 0),Bool.and_true]at HC;have HC:=zh HC;clear k2 k3 k1' ho;go_in;go_wp2_with fail
    refine(HO.out _).mono ?_;rintro e w2 ⟨rfl,rfl⟩;go_wp2_with fail
    refine(HR.out).mono ?_;rintro e w2 hg2;obtain⟨rfl,hb2⟩:=HF.out _ _ _ hg2;go_wp2_with fail
    go_ret;exact⟨ret_val (by rw[HC.out]<;>rfl),hb2⟩
  ·rw[flt_ord hl,decide_eq_false (by omega:¬ (0:Int) ≤ -1),Bool.and_false]at HC;rw[←ord_lt]at hl;have HC:=zh HC;clear k2 k3 k1';go_in;go_wp2_with fail
   go_ret;exact⟨ret_val (by rw[HC.out]<;>rfl),hB⟩
 have e3:(v.kind==3)=false:=beq_eq_false_iff_ne.2 k3;by_cases k14:v.kind=1∨v.kind=4
 ·rw[if_pos k14]at HC;have HC:=zh HC;rcases k14 with k|k
  ·have e1:(v.kind==1)=true:=by rw[k];rfl
   clear k2 k3 k1' k;go_in;go_wp2_with fail
   refine(HR.out).mono ?_;rintro e w2 hg2;obtain⟨rfl,hb2⟩:=HF.out _ _ _ hg2;go_wp2_with fail
   go_ret;exact⟨ret_val (by rw[HC.out]<;>rfl),hb2⟩
  ·have e1:(v.kind==1)=false:=by rw[k];rfl
   have e4:(v.kind==4)=true:=by rw[k];rfl
   clear k2 k3 k1' k;go_in;go_wp2_with fail
   refine(HR.out).mono ?_;rintro e w2 hg2;obtain⟨rfl,hb2⟩:=HF.out _ _ _ hg2;go_wp2_with fail
   go_ret;exact⟨ret_val (by rw[HC.out]<;>rfl),hb2⟩
 ·rw[if_neg k14,if_neg k2,if_neg k3]at HC;have e1:(v.kind==1)=false:=beq_eq_false_iff_ne.2 (by omega);have e4:(v.kind==4)=false:=beq_eq_false_iff_ne.2 (by omega);have HC:=zh HC;clear k2 k3 k1' k14;go_in;go_wp2_with fail
  go_ret;exact⟨ret_val (by rw[HC.out]<;>rfl),hB⟩
end
section
open Go.RowKit
theorem bt_vp:BT 111:=⟨by kernel_rfl,by decide⟩
theorem finnerBool (b:Bool) (w:World):Calls Tryz.prog 103 #[.bool b] w fun e w'=>e=.returned (.string ⟨(Lib.formatBool b).toArray⟩)∧w=w' :=
 (Tryz.strconv_FormatBool b w).mono fun _ _ ⟨h,k⟩=>⟨h,k.symm⟩
theorem formatInt_any (n:Int) (h0 : -9223372036854775808≤n) (h1:n≤9223372036854775807) (w:World) (hE:Env w) :
  Calls Tryz.prog 104 #[.int .i64 n,.int .i64 10] w (Gives (.string ⟨(Lib.itoa n).toArray⟩) w):=by
 have H:=zh (Tryz.internal_strconv_FormatInt_10 n h0 h1 w hE.tab);clear h0 h1;go_in;go_wp2_with fail
 refine H.out.mono ?_;rintro e w1 ⟨rfl,k,os,rfl⟩;go_wp2_with fail
 go_ret;exact⟨ret_val rfl,below_grow w k os⟩
theorem quote_open (l:List UInt8):quoteB l=[34]++(l.flatMap escB++[34]):=rfl
theorem escB_len (c:UInt8):(escB c).length≤2:=by unfold escB;split<;>simp
theorem flat_len:∀ l:List UInt8,(l.flatMap escB).length≤2*l.length
 | []=>by simp
 | c::l=>by
  rw[List.flatMap_cons,List.length_append,List.length_cons];have:=escB_len c;have:=flat_len l;omega
theorem take_esc {l:List UInt8} {i:Nat} (h:i<l.length):(l.take (i+1)).flatMap escB=(l.take i).flatMap escB++escB (l.getD i 0):=by
 rw[List.take_succ_eq_append_getElem h,List.flatMap_append,show l.getD i 0=l[i] by simp[List.getD,h]];simp
theorem vstr_any (l:List UInt8) (hl:l.length≤1000) (B b:Nat) (o:List UInt8) (ho:o.length≤90000000) (w:World) (hb:Bld 111 B b o w) :
  Calls Tryz.prog 106 #[.pointer (some ⟨b,0,none⟩),.string ⟨l.toArray⟩] w fun e w'=>e=.returned (.tuple #[])∧Bld 111 B b (o++quoteB l) w'∧Wrote B b w w':=by
 obtain⟨r0,hr0⟩:=hb.row;have hbS:=hb.1;have H1:=zh (show Calls Tryz.prog 48 #[.pointer (some ⟨b,0,none⟩),.int .u8 34] w _ from hr0.write bt_vp (by omega) 34);have hsz:(⟨l.toArray⟩:ByteArray).size=l.length:=by show l.toArray.size=_;simp
 have hcell0:∀ (w:World) j,j<l.length→(Lib.bytesWorld w 5 (⟨l.toArray⟩:ByteArray)).cell? ⟨w.heap.size,j,none⟩=some (.int .u8 (l.getD j 0).toNat):=fun w j hj=>Lib.bytesWorld_cell w 5 (⟨l.toArray⟩:ByteArray) j (by rw[hsz];exact hj)
 have HC0:=zh hcell0;clear hcell0;have hcv:=fun w=>Lib.run_convert_string_bytes (P:=Tryz.prog) w 9 50 5 (⟨l.toArray⟩:ByteArray) Tryz.underlying9 Tryz.underlying50 Tryz.underlying5
 have HQ:=zh (quote_open l);clear hr0 hb;go_in;go_wp2_with fail
 refine(H1.out).mono ?_;rintro e w1 ⟨rfl,⟨r1,hr1,hn1⟩,hw1,_⟩;have hcell:=HC0.out w1;have hbw:=below_bytes w1 5 (⟨l.toArray⟩:ByteArray);have hnewS:=Lib.bytesWorld_at_new w1 5 (⟨l.toArray⟩:ByteArray);have hown:r1≠some w1.heap.size:=fun h=>by have:=hr1.own _ h;omega
 have hlt:w1.heap.size<(Lib.bytesWorld w1 5 (⟨l.toArray⟩:ByteArray)).heap.size:=by rw[Lib.bytesWorld_size];omega
 have hbb:b<w1.heap.size:=(hr1.bld.lt).1;have hr2:=hr1.below hbw;have hw2:=hw1.below hr1.1 hbw;have hcv:=hcv w1;rw[hsz]at hcv;clear hr1 hw1 hn1 hbw;go_wp2_with fail
 generalize Lib.bytesWorld w1 5 (⟨l.toArray⟩:ByteArray)=W0 at *;generalize grownCap w1 l.length 0 5=gc at *;generalize w1.heap.size=SB at *;have HCell:=zh hcell;have HS:=zh hsz;clear hcell hcv hsz;generalize hN:l.length=N at *;have HN:=zh hN;clear hN;go_loopw [13] (fun iv wr=>∃ i r,i≤N∧iv=.int .i64 (i:Nat)∧BldR 111 B b r (o++([34]++(l.take i).flatMap escB)) wr∧r≠some SB∧Wrote B b w wr∧Hid (wr.heap[SB]?=W0.heap[SB]?)∧SB<wr.heap.size) (fun iv _=>N - (intOf iv).toNat)
 case atStart=>exact⟨0,r1,by omega,rfl,hr2,hown,hw2,rfl,hlt⟩
 case round =>
  clear hr2 hown hw2;obtain⟨i,r,hi,rfl,hr,hrn,hwr,hsb,hsl⟩:=hrel;have hcell:∀ j,j<N→wr.cell? ⟨SB,j,none⟩=some (.int .u8 (l.getD j 0).toNat):=fun j hj=>(cell_same hsb.out).trans (HCell.out j hj)
  have hlen:∀ j,(o++([34]++(l.take j).flatMap escB)).length≤100000000 - 10:=fun j=>by
   have:=flat_len (l.take j);have h2:(l.take j).length≤l.length:=List.length_take_le' ..;have:=HN.out;simp only[List.length_append,List.length_cons,List.length_nil];omega
  by_cases hlt2:i<N
  ·have t0:decide ((i:Int)<(N:Int))=true:=by simp;omega
   have x0:=hcell i hlt2;have b1:(0:Int)≤(i:Int):=by omega
   have b2:(i:Int)<(N:Int):=by omega
   have HE:=zh (take_esc (l:=l) (i:=i) (by rw[HN.out];exact hlt2));have HL:=zh hlen;clear hcell hlen;generalize l.getD i 0=c at *;by_cases hc:c=34∨c=92
   ·have he:escB c=[92,c]:=by unfold escB;rw[if_pos hc]
    have HX:=zh (show(o++([34]++(l.take i).flatMap escB))++[92]++[c]=o++([34]++(l.take (i+1)).flatMap escB) by rw[HE.out,he];simp);have HW:=zh (show Calls Tryz.prog 48 #[.pointer (some ⟨b,0,none⟩),.int .u8 92] wr _ from hr.write bt_vp (by have:=HL.out i;omega) 92);have HLi:=zh (HL.out i);have hcc:((c.toNat:Int)==34)=true∨(((c.toNat:Int)==34)=false∧((c.toNat:Int)==92)=true):=by
     rcases hc with rfl|rfl
     ·exact .inl rfl
     ·exact .inr ⟨rfl,rfl⟩
    have hrs:=hr.1;clear hr he hc;rcases hcc with t1|⟨t1,t2⟩;all_goals
     go_wp2_with fail
     refine(HW.out).mono ?_;rintro e w3 ⟨rfl,⟨r3,hr3,hn3⟩,hw3,hk3⟩;have h3:r3≠some SB:=fun h=>by
      rcases hn3 SB h with h|h
      ·exact hrn h
      ·omega
     have hsb3:w3.heap[SB]?=W0.heap[SB]?:=(hk3 SB hsl (by omega) hrn).trans hsb.out;have HB3:=zh hsb3;have hsl3:SB<w3.heap.size:=Nat.lt_of_lt_of_le hsl hw3.size;have HW4:=zh (hr3.write bt_vp (by have:=HLi.out;simp only[List.length_append,List.length_cons,List.length_nil]at this ⊢;omega) c)
     have hr3s:=hr3.1;clear hsb3 hk3 hn3 hr3;go_wp2_with fail
     refine(HW4.out).mono ?_;rintro e w5 ⟨rfl,⟨r5,hr5,hn5⟩,hw5,hk5⟩;have h5:r5≠some SB:=fun h=>by
      rcases hn5 SB h with h|h
      ·exact h3 h
      ·omega
     have hsb5:w5.heap[SB]?=W0.heap[SB]?:=(hk5 SB hsl3 (by omega) h3).trans HB3.out;have HB5:=zh hsb5;rw[HX.out]at hr5;clear hsb5 hk5 hn5;go_wp2_with fail
     go_roundw
     case rel=>exact⟨i+1,r5,by omega,by go_num,hr5,h5,hwr.trans (hw3.trans hw5),HB5,Nat.lt_of_lt_of_le hsl3 hw5.size⟩
     case measure=>simp[intOf];omega
   ·have he:escB c=[c]:=by unfold escB;rw[if_neg hc]
    have HX:=zh (show(o++([34]++(l.take i).flatMap escB))++[c]=o++([34]++(l.take (i+1)).flatMap escB) by rw[HE.out,he];simp);have HW4:=zh (hr.write bt_vp (by have:=HL.out i;omega) c);have t1:((c.toNat:Int)==34)=false:=by
     rw[beq_eq_false_iff_ne];intro h;exact hc (.inl (UInt8.toNat_inj.1 (by show c.toNat=34;omega)))
    have t2:((c.toNat:Int)==92)=false:=by
     rw[beq_eq_false_iff_ne];intro h;exact hc (.inr (UInt8.toNat_inj.1 (by show c.toNat=92;omega)))
    have hrs:=hr.1;clear hr he hc;go_wp2_with fail
    refine(HW4.out).mono ?_;rintro e w5 ⟨rfl,⟨r5,hr5,hn5⟩,hw5,hk5⟩;have h5:r5≠some SB:=fun h=>by
     rcases hn5 SB h with h|h
     ·exact hrn h
     ·omega
    have hsb5:w5.heap[SB]?=W0.heap[SB]?:=(hk5 SB hsl (by omega) hrn).trans hsb.out;have HB5:=zh hsb5;rw[HX.out]at hr5;clear hsb5 hk5 hn5;go_wp2_with fail
    go_roundw
    case rel=>exact⟨i+1,r5,by omega,by go_num,hr5,h5,hwr.trans hw5,HB5,Nat.lt_of_lt_of_le hsl hw5.size⟩
    case measure=>simp[intOf];omega
  ·have t0:decide ((i:Int)<(N:Int))=false:=by simp;omega
   have hX:o++([34]++(l.take i).flatMap escB)++[34]=o++quoteB l:=by
    rw[HQ.out,List.take_of_length_le (by rw[HN.out];omega)];simp
   have HX:=zh hX;have HW4:=zh (show Calls Tryz.prog 48 #[.pointer (some ⟨b,0,none⟩),.int .u8 34] wr _ from hr.write bt_vp (by have:=hlen i;omega) 34);clear hX hcell hlen hr;go_wp2_with fail
   refine(HW4.out).mono ?_;rintro e w5 ⟨rfl,⟨r5,hr5,_⟩,hw5,_⟩;rw[HX.out]at hr5;go_wp2_with fail
   go_end0;exact⟨rfl,hr5.bld,hwr.trans hw5⟩
end
section
open Go
theorem tokens_len:∀ (l:List UInt8) (f b:Nat),(allS l f b).1.length≤f
 | _,0,_=>Nat.le_refl _
 | l,f+1,b=>by
  have ih:=tokens_len l f (tokS l b).1.next
  show(if _ then _ else _:List Tk × Nat × Int).1.length≤_
  split
  ·simp
  ·split
   ·simp
   ·split
    ·omega
    ·simp;omega
theorem tokens_len2 (l:List UInt8):(tokens l).1.length≤l.length+1:=by
 unfold tokens;split
 ·simp
 ·exact tokens_len l (l.length+1) 0
end
section
open Go
mutual
def inE:ET→Prop
 | .mk _ _ v _ ks=>inV v∧inEL ks
def inEL:List ET→Prop
 | []=>True
 | x::xs=>inE x∧inEL xs
end
theorem wants_cases {k:Int} (h:wantsE k ≠ -2):(wantsE k=0∧(k=1∨k=2))∨(wantsE k=1∧(k=3∨k=4∨k=18∨(20≤k∧k≤23)))∨(wantsE k=2∧((5≤k∧k≤14)∨k=19))∨(wantsE k=3∧k=15)∨(wantsE k = -1∧(k=16∨k=17)):=by
 unfold wantsE at *;by_cases h1:k=1∨k=2
 ·simp only[if_pos h1];exact .inl ⟨trivial,h1⟩
 ·simp only[if_neg h1]at h ⊢
  by_cases h2:k=3∨k=4∨k=18∨(20≤k∧k≤23)
  ·simp only[if_pos h2];exact .inr (.inl ⟨trivial,h2⟩)
  ·simp only[if_neg h2]at h ⊢
   by_cases h3:(5≤k∧k≤14)∨k=19
   ·simp only[if_pos h3];exact .inr (.inr (.inl ⟨trivial,h3⟩))
   ·simp only[if_neg h3]at h ⊢
    by_cases h4:k=15
    ·simp only[if_pos h4];exact .inr (.inr (.inr (.inl ⟨trivial,h4⟩)))
    ·simp only[if_neg h4]at h ⊢
     by_cases h5:k=16∨k=17
     ·simp only[if_pos h5];exact .inr (.inr (.inr (.inr ⟨trivial,h5⟩)))
     ·simp only[if_neg h5]at h;exact absurd rfl h
theorem key_pos {f:Nat} (h:0≤ordB f 0):Fl.isNaN f=true∨Fl.ng f=false:=by
 unfold ordB at h;have h0:keyB 0=0:=by decide
 rw[h0]at h;by_cases h1:keyB f<0
 ·rw[if_pos h1]at h;omega
 ·unfold keyB at h1;cases hn:Fl.isNaN f
  ·rw[hn,if_neg (by decide)]at h1;cases hg:Fl.ng f
   ·exact .inr rfl
   ·rw[hg,if_pos rfl]at h1;omega
  ·exact .inl rfl
theorem text_head {f:Nat} (h:0≤ordB f 0):∃ c q,textB f=c::q∧(isDig c=true∨isLet c=true):=by
 rcases key_pos h with h1|h1
 ·refine⟨110,[97,110],?_,.inr (by decide)⟩;unfold textB;rw[h1];rfl
 ·cases hn:Fl.isNaN f
  ·unfold textB;rw[hn,h1,if_neg (by decide),if_neg (by decide),List.nil_append];by_cases hi:Fl.rg f=9218868437227405312
   ·rw[if_pos hi];exact⟨_,_,rfl,.inr (by decide)⟩
   ·rw[if_neg hi];by_cases h0:Fl.rg f=0
    ·rw[if_pos h0];exact⟨_,_,rfl,.inl (by decide)⟩
    ·rw[if_neg h0];obtain⟨c,r,hc,hd⟩:=dec_head (txtN (Fl.rg f));rw[hc];exact⟨_,_,rfl,.inl hd⟩
  ·refine⟨110,[97,110],?_,.inr (by decide)⟩;unfold textB;rw[hn];rfl
theorem nlet_head {c:UInt8} (h:isDig c=true∨isLet c=true):isBl c=false∧c≠61∧c≠45:=by
 rcases h with h|h
 ·refine⟨dig_bl h,?_,?_⟩<;>(rintro rfl;exact absurd h (by decide))
 ·refine⟨(let_bl h).1,?_,?_⟩<;>(rintro rfl;exact absurd h (by decide))
theorem textB_len1 {b:Nat}:(textB b).length≤1000:=by
 unfold textB;by_cases hn:Fl.isNaN b=true
 ·rw[hn,if_pos rfl];decide
 ·have hn':Fl.isNaN b=false:=by simpa using hn
  rw[hn'];by_cases hi:Fl.rg b=9218868437227405312
  ·rw[if_pos hi];cases Fl.ng b<;>decide
  ·rw[if_neg hi];by_cases h0:Fl.rg b=0
   ·rw[if_pos h0];cases Fl.ng b<;>decide
   ·rw[if_neg h0];have hle:=nan_lt hn';obtain⟨_,hl,hr,_⟩:=txt_bounds h0 (show Fl.rg b<9218868437227405312 by omega);have h1:=dec_len (txtN (Fl.rg b)) (by omega);have h2:=itoa_len (txtE (Fl.rg b)) (by have:=hr.1;omega) (by have:=hr.2;omega);cases Fl.ng b<;>simp<;>omega
theorem rowE_all:∀ {ns:List (List UInt8)},rowE ns=true→∀ a ∈ ns,fieldB a=true
 | [],_,a,h=>nomatch h
 | [x],h,a,ha=>by
  rw[List.mem_singleton]at ha;subst ha;exact h
 | x::y::l,h,a,ha=>by
  rw[rowE]at h;simp only[Bool.and_eq_true]at h;rcases List.mem_cons.1 ha with rfl|ha
  ·exact h.1.1
  ·exact rowE_all h.2 a ha
theorem field_nm {s:List UInt8} (h:fieldB s=true):nmB s=true∧s≠[110,97,110]∧s≠[105,110,102]:=by
 unfold fieldB at h;simp only[Bool.and_eq_true,bne_iff_ne,ne_eq]at h;exact⟨h.1.1,h.1.2,h.2⟩
end
section
open Go.RowKit
theorem fBool_any (b:Bool) (w:World):Calls Tryz.prog 103 #[.bool b] w (Gives (.string ⟨(Lib.formatBool b).toArray⟩) w) :=
 (finnerBool b w).mono fun _ _ ⟨h,k⟩=>⟨h,by rw[←k];exact Below.refl _ _⟩
theorem below_undrew {B b:Nat} {w u:World} (h:Wrote B b w u):Below B w u:=h.1
theorem const_kind {v:VT} (h:constB v=true):v.kind=1∨v.kind=2∨v.kind=3∨v.kind=4:=by
 unfold constB at h;by_cases h1:v.kind=1∨v.kind=4
 ·omega
 ·rw[if_neg h1]at h;by_cases h2:v.kind=2
  ·omega
  ·rw[if_neg h2]at h;by_cases h3:v.kind=3
   ·omega
   ·rw[if_neg h3]at h;cases h
theorem const_right {v:VT} (h:constB v=true):rightB v=true:=by
 unfold constB at h;by_cases h1:v.kind=1∨v.kind=4
 ·rw[if_pos h1]at h;exact h
 ·rw[if_neg h1]at h;by_cases h2:v.kind=2
  ·rw[if_pos h2,Bool.and_eq_true]at h;exact h.1
  ·rw[if_neg h2]at h;by_cases h3:v.kind=3
   ·rw[if_pos h3,Bool.and_eq_true]at h;exact h.1
   ·rw[if_neg h3]at h;cases h
theorem right_bool {v:VT} (h:rightB v=true) (hk:v.kind=1):v.num=0∨v.num=1:=by
 unfold rightB at h;rw[Bool.and_eq_true]at h;obtain⟨k,n,f,s,ns,its⟩:=v;have hk:k=1:=hk;subst hk;have h2:=h.2;rw[rightV,if_neg (by omega),if_pos rfl]at h2;simp only[Bool.and_eq_true,decide_eq_true_eq]at h2;exact h2.2
theorem right_str {v:VT} (h:rightB v=true) (hk:v.kind=4):v.str.length≤200:=by
 unfold rightB at h;rw[Bool.and_eq_true]at h;obtain⟨k,n,f,s,ns,its⟩:=v;have hk:k=4:=hk;subst hk;have h2:=h.2;rw[rightV,if_neg (by omega),if_neg (by omega),if_neg (by omega),if_neg (by omega),if_pos rfl]at h2;simp only[Bool.and_eq_true,decide_eq_true_eq]at h2;exact h2.2
theorem textC_len {v:VT} (h:constB v=true) (hn : -9223372036854775808≤v.num∧v.num≤9223372036854775807):(textC v).length≤1000:=by
 unfold textC;rcases const_kind h with k|k|k|k
 ·rw[if_pos k];split<;>simp
 ·rw[if_neg (by omega),if_pos k];exact Nat.le_trans (itoa_len v.num hn.1 hn.2) (by omega)
 ·rw[if_neg (by omega),if_neg (by omega),if_pos k];exact textB_len1
 ·rw[if_neg (by omega),if_neg (by omega),if_neg (by omega),quote_open];have:=right_str (const_right h) k;have:=flat_len v.str;simp only[List.length_append,List.length_cons,List.length_nil];omega
theorem wrote_undrew {B b:Nat} {w u1 u2:World} (hB:B≤w.heap.size) (h:Below w.drew.heap.size w.drew u1) (k:Wrote B b u1 u2):Wrote B b w u2 :=
 ((Wrote.refl B b w).below hB (undrew h)).trans k
theorem vpval_any (d:Nat) (v:VT) (g o B b:Nat) (ob:List UInt8) (hob:ob.length≤90000000) (u w:World) (hu:u.heap.size≤B) (huw:Below u.heap.size u w) (hE:Env w) (hb:Bld 111 B b ob w) (hv:PtrTo u (d+1) v g o) (hc:constB v=true) :
  Calls Tryz.prog 75 #[.pointer (some ⟨b,0,none⟩),.pointer (some ⟨g,o,none⟩)] w fun e w'=>e=.returned (.tuple #[])∧Bld 111 B b (ob++textC v) w'∧Wrote B b w w':=by
 have hgu:g<u.heap.size:=hv.1;have hnum : -9223372036854775808≤v.num∧v.num≤9223372036854775807:=by
  obtain⟨_,cs,⟨_,_,_,_,h3,_⟩,_⟩:=hv;exact h3
 obtain⟨pn,p,cap,hg,x0,x1,x2,x3,x4,x5,h4,h5,h6,h7,h9⟩:=(hv.kept huw).open
 have hT:=textC.eq_1 v;have hl:=textC_len hc hnum;have HB0:=zh hb.1;clear h9 h7 h6 h5 hv;rcases const_kind hc with k|k|k|k
 ·have e1:(v.kind==1)=true:=by rw[k];rfl
  rw[if_pos k]at hT;rcases right_bool (const_right hc) k with hn|hn
  ·have e2:((0:Int)==1)=false:=rfl;rw[hn]at hT x1;rw[if_pos rfl]at hT;have HT:=zh (hT.trans (show [102,97,108,115,101]=Lib.formatBool false from rfl));clear hT hn k hc hl huw hnum;have HKc:=zh (fun w' (hb:Below w.heap.size w w')=>(show w'.cell? ⟨g,o+1,none⟩=some (.int .i64 0) from(hb.cell (p:=⟨g,o+1,none⟩) hg).trans x1));have HKd:=zh (fun w' (hb:Below B w w')=>(show w'.cell? ⟨g,o+1,none⟩=some (.int .i64 0) from(hb.cell (p:=⟨g,o+1,none⟩) (Nat.lt_of_lt_of_le hgu hu)).trans x1));have HF:=zh (fun w=>fBool_any false w);have HW:=zh (fun w' (hbw:Below w.heap.size w w')=>(hb.below hbw).writeS bt_vp (Lib.formatBool false) (by rw[show(Lib.formatBool false).length=5 from rfl];omega));go_in;go_wp2_with fail
   go_region_held3 (fun w'=>w'.cell? ⟨g,o+1,none⟩=some (.int .i64 0)) (first|with_reducible exact x1|with_reducible exact HKc.out _ (undrew hb1)|with_reducible exact HKd.out _ (below_undrew (wrote_undrew HB0.out hb1 hw2))|go_keep) (first
    | (go_at_call 103;(with_reducible refine(HF.out _).mono ?_);rintro e u1 ⟨rfl,hb1⟩)
    | (go_at_call 44;(with_reducible refine(HW.out _ (undrew hb1)).mono ?_);rintro e u2 ⟨rfl,hd2,hw2⟩))
   go_wp2_with fail
   refine bodyPost_ret (results_none rfl _ _ _) rfl ?_;exact⟨rfl,by rw[HT.out];exact hd2,wrote_undrew HB0.out hb1 hw2⟩
  ·have e2:((1:Int)==1)=true:=rfl;rw[hn]at hT x1;rw[if_neg (by omega)]at hT;have HT:=zh (hT.trans (show [116,114,117,101]=Lib.formatBool true from rfl));clear hT hn k hc hl huw hnum;have HKc:=zh (fun w' (hb:Below w.heap.size w w')=>(show w'.cell? ⟨g,o+1,none⟩=some (.int .i64 1) from(hb.cell (p:=⟨g,o+1,none⟩) hg).trans x1));have HKd:=zh (fun w' (hb:Below B w w')=>(show w'.cell? ⟨g,o+1,none⟩=some (.int .i64 1) from(hb.cell (p:=⟨g,o+1,none⟩) (Nat.lt_of_lt_of_le hgu hu)).trans x1));have HF:=zh (fun w=>fBool_any true w);have HW:=zh (fun w' (hbw:Below w.heap.size w w')=>(hb.below hbw).writeS bt_vp (Lib.formatBool true) (by rw[show(Lib.formatBool true).length=4 from rfl];omega));go_in;go_wp2_with fail
   go_region_held3 (fun w'=>w'.cell? ⟨g,o+1,none⟩=some (.int .i64 1)) (first|with_reducible exact x1|with_reducible exact HKc.out _ (undrew hb1)|with_reducible exact HKd.out _ (below_undrew (wrote_undrew HB0.out hb1 hw2))|go_keep) (first
    | (go_at_call 103;(with_reducible refine(HF.out _).mono ?_);rintro e u1 ⟨rfl,hb1⟩)
    | (go_at_call 44;(with_reducible refine(HW.out _ (undrew hb1)).mono ?_);rintro e u2 ⟨rfl,hd2,hw2⟩))
   go_wp2_with fail
   refine bodyPost_ret (results_none rfl _ _ _) rfl ?_;exact⟨rfl,by rw[HT.out];exact hd2,wrote_undrew HB0.out hb1 hw2⟩
 ·have e1:(v.kind==1)=false:=by rw[k];rfl
  have e2:(v.kind==2)=true:=by rw[k];rfl
  rw[if_neg (by omega),if_pos k]at hT;rw[hT]at hl;have HT:=zh hT;clear hT k hc huw;have HKc:=zh (fun w' (hb:Below w.heap.size w w')=>(show w'.cell? ⟨g,o+1,none⟩=some (.int .i64 v.num) from(hb.cell (p:=⟨g,o+1,none⟩) hg).trans x1));have HKd:=zh (fun w' (hb:Below B w w')=>(show w'.cell? ⟨g,o+1,none⟩=some (.int .i64 v.num) from(hb.cell (p:=⟨g,o+1,none⟩) (Nat.lt_of_lt_of_le hgu hu)).trans x1));have HF:=zh (fun w' (hE':Env w')=>formatInt_any v.num hnum.1 hnum.2 w' hE');have HW:=zh (fun w' (hbw:Below w.heap.size w w')=>(hb.below hbw).writeS bt_vp (Lib.itoa v.num) (by omega));clear hnum hl;go_in;go_wp2_with fail
  go_region_held3 (fun w'=>w'.cell? ⟨g,o+1,none⟩=some (.int .i64 v.num)) (first|with_reducible exact x1|with_reducible exact HKc.out _ (undrew hb1)|with_reducible exact HKd.out _ (below_undrew (wrote_undrew HB0.out hb1 hw2))|go_keep) (first
   | (go_at_call 104;(with_reducible refine(HF.out _ (hE.below ((Below.refl _ _).drew))).mono ?_);rintro e u1 ⟨rfl,hb1⟩)
   | (go_at_call 44;(with_reducible refine(HW.out _ (undrew hb1)).mono ?_);rintro e u2 ⟨rfl,hd2,hw2⟩))
  go_wp2_with fail
  refine bodyPost_ret (results_none rfl _ _ _) rfl ?_;exact⟨rfl,by rw[HT.out];exact hd2,wrote_undrew HB0.out hb1 hw2⟩
 ·have e1:(v.kind==1)=false:=by rw[k];rfl
  have e2:(v.kind==2)=false:=by rw[k];rfl
  have e3:(v.kind==3)=true:=by rw[k];rfl
  rw[if_neg (by omega),if_neg (by omega),if_pos k]at hT;rw[hT]at hl;have HT:=zh hT;clear hT k hc huw hnum;have HKc:=zh (fun w' (hb:Below w.heap.size w w')=>(show w'.cell? ⟨g,o+2,none⟩=some (.float .f64 v.flt) from(hb.cell (p:=⟨g,o+2,none⟩) hg).trans x2));have HKd:=zh (fun w' (hb:Below B w w')=>(show w'.cell? ⟨g,o+2,none⟩=some (.float .f64 v.flt) from(hb.cell (p:=⟨g,o+2,none⟩) (Nat.lt_of_lt_of_le hgu hu)).trans x2));have HF:=zh (fun w' (hE':Env w')=>(show Calls _ _ _ w' (Gives _ w') from text_any v.flt h4 w' hE'));have HW:=zh (fun w' (hbw:Below w.heap.size w w')=>(hb.below hbw).writeS bt_vp (textB v.flt) (by omega));clear hl h4;go_in;go_wp2_with fail
  go_region_held3 (fun w'=>w'.cell? ⟨g,o+2,none⟩=some (.float .f64 v.flt)) (first|with_reducible exact x2|with_reducible exact HKc.out _ (undrew hb1)|with_reducible exact HKd.out _ (below_undrew (wrote_undrew HB0.out hb1 hw2))|go_keep) (first
   | (go_at_call 105;(with_reducible refine(HF.out _ (hE.below ((Below.refl _ _).drew))).mono ?_);rintro e u1 ⟨rfl,hb1⟩)
   | (go_at_call 44;(with_reducible refine(HW.out _ (undrew hb1)).mono ?_);rintro e u2 ⟨rfl,hd2,hw2⟩))
  go_wp2_with fail
  refine bodyPost_ret (results_none rfl _ _ _) rfl ?_;exact⟨rfl,by rw[HT.out];exact hd2,wrote_undrew HB0.out hb1 hw2⟩
 ·have e1:(v.kind==1)=false:=by rw[k];rfl
  have e2:(v.kind==2)=false:=by rw[k];rfl
  have e3:(v.kind==3)=false:=by rw[k];rfl
  have e4:(v.kind==4)=true:=by rw[k];rfl
  rw[if_neg (by omega),if_neg (by omega),if_neg (by omega)]at hT;have HT:=zh hT;have HS:=zh (vstr_any v.str (by have:=right_str (const_right hc) k;omega) B b ob hob w hb);clear hT k hc huw hnum hl;go_in;go_wp2_with fail
  refine(HS.out).mono ?_;rintro e w2 ⟨rfl,hd2,hw2⟩;go_wp2_with fail
  refine bodyPost_ret (results_none rfl _ _ _) rfl ?_;exact⟨rfl,by rw[HT.out];exact hd2,hw2⟩
/-- the text of what may be a constant -/
theorem vText_any (d:Nat) (v:VT) (cs:Array Value) (w:World) (hE:Env w) (h:ValAt w (d+1) v cs) (hc:constB v=true) :
  Calls Tryz.prog 43 #[.agg cs] w (Gives (.tuple #[.string ⟨(textC v).toArray⟩,.int .i64 0]) w):=by
 obtain⟨pn,p,cap,rfl⟩:=h.six;have hB:Below w.heap.size w (w.alloc (.cells #[.int .i64 v.kind,.int .i64 v.num,.float .f64 v.flt,.string ⟨v.str.toArray⟩,pn,.slice p v.items.length cap] 26)):=(Below.refl _ _).alloc (Nat.le_refl _) _;have hnew:(w.alloc (.cells #[.int .i64 v.kind,.int .i64 v.num,.float .f64 v.flt,.string ⟨v.str.toArray⟩,pn,.slice p v.items.length cap] 26)).heap[w.heap.size]?=some (.cells #[.int .i64 v.kind,.int .i64 v.num,.float .f64 v.flt,.string ⟨v.str.toArray⟩,pn,.slice p v.items.length cap] 26 (0,0)):=heap_alloc_new w _;have hp:PtrTo (w.alloc (.cells #[.int .i64 v.kind,.int .i64 v.num,.float .f64 v.flt,.string ⟨v.str.toArray⟩,pn,.slice p v.items.length cap] 26)) (d+1) v w.heap.size 0:=h.box;have HR:=zh (vRight_any (d+1) v _ _ (h.kept hB));have hr:=const_right hc;rw[hr]at HR;generalize hW:w.alloc _=W at *;have HWe:=zh hW;clear hW;have c0:=zc hnew 0;have c1:=zc hnew 1;have c2:=zc hnew 2;have c3:=zc hnew 3;have c4:=zc hnew 4;have c5:=zc hnew 5;simp only[List.getElem?_toArray,List.getElem?_cons_zero,List.getElem?_cons_succ]at c0 c1 c2 c3 c4 c5;have hEW:=hE.below hB;clear hnew h hr hE;go_in;go_wp2_with fail
 rw[HWe.out];go_wp2_with fail
 refine(HR.out).mono ?_;rintro e w2 ⟨rfl,hb2⟩;have hbA:Below W.heap.size W (w2.alloc (.cells #[.pointer none,.slice none 0 0] 111)):=hb2.alloc hb2.size _;have HV:=zh (vpval_any d v w.heap.size 0 w2.heap.size w2.heap.size [] (by simp) W _ hb2.size hbA (hEW.below hbA) (Bld.fresh _ w2) hp hc);have hbB:=hB.trans (hb2.mono hB.size);have hA2:Below w2.heap.size w2 (w2.alloc (.cells #[.pointer none,.slice none 0 0] 111)):=(Below.refl _ _).alloc (Nat.le_refl _) _;clear c0 c1 c2 c3 c4 c5 hp hEW hbA;go_wp2_with fail
 refine(HV.out).mono ?_;rintro e w3 ⟨rfl,hd3,hw3⟩;have HX:=zh (hd3.text bt_vp);have hb3:=hbB.trans ((hA2.trans hw3.1).mono hbB.size);have h3s:w.heap.size≤w3.heap.size:=hb3.size;clear hd3;go_wp2_with fail
 refine(HX.out).mono ?_;rintro e w4 ⟨rfl,hb4⟩;go_wp2_with fail
 go_ret2;exact⟨rfl,hb3.trans (hb4.mono hbB.size)⟩
end
section
open Go.RowKit
theorem isE_len {α:Type} (l:List α):l.isEmpty=decide (l.length=0):=by cases l<;>simp
def okAtE (l:List (List UInt8)) (i:Nat):Bool:=fieldB (l.getD i [])&&(decide (i=0)||Op.bytesLess (l.getD (i - 1) []) (l.getD i []))
theorem rowE_iff:∀ l:List (List UInt8),rowE l=true↔∀ i,i<l.length→okAtE l i=true
 | []=>by simp[rowE]
 | [a]=>by
  constructor
  ·intro h i hi;have:i=0:=by simp at hi;exact hi
   subst this;simpa [okAtE,rowE] using h
  ·intro h;have:=h 0 (by simp);simpa [okAtE,rowE] using this
 | a::b::l=>by
  have ih:=rowE_iff (b::l);rw[rowE,Bool.and_eq_true,Bool.and_eq_true,ih];constructor
  ·rintro⟨⟨h1,h2⟩,h3⟩ i hi;match i with
   | 0=>simp[okAtE,h1]
   | 1 =>
    have:=h3 0 (by simp);simp[okAtE]at this ⊢
    exact⟨this,h2⟩
   | i+2 =>
    have:=h3 (i+1) (by simp at hi ⊢;omega)
    simpa [okAtE] using this
  ·intro h;refine⟨⟨?_,?_⟩,?_⟩
   ·have:=h 0 (by simp);simp[okAtE]at this;exact this
   ·have:=h 1 (by simp);simp[okAtE]at this;exact this.2
   ·intro i hi;match i with
    | 0 =>
     have:=h 1 (by simp);simp[okAtE]at this ⊢
     exact this.1
    | i+1 =>
     have:=h (i+2) (by simp at hi ⊢;omega)
     simpa [okAtE] using this
theorem rowE_no {l:List (List UInt8)} {i:Nat} (hi:i<l.length) (h:okAtE l i=false):rowE l=false:=by
 rw[←Bool.not_eq_true,rowE_iff];intro hh;rw[hh i hi]at h;cases h
theorem field_word {s:List UInt8} (h:wordS s=false):fieldB s=nmB s:=by
 have h1:s≠[110,97,110]:=by rintro rfl;exact absurd h (by decide)
 have h2:s≠[105,110,102]:=by rintro rfl;exact absurd h (by decide)
 unfold fieldB;rw[bne_iff_ne.2 h1,bne_iff_ne.2 h2,Bool.and_true,Bool.and_true]
theorem pnamed_any (d:Nat) (x:ET) (g o:Nat) (w:World) (h:PtrE w (d+1) x g o) :
  Calls Tryz.prog 52 #[.pointer (some ⟨g,o,none⟩)] w (Gives (.bool (namedE x.kind x.str x.names x.kids.length)) w):=by
 obtain⟨qn,qi,pn,p,cap,hx⟩:=h.open
 have x0:=hx.c0;have x1:=hx.c1;have x8:=hx.c8;have x9:=hx.c9;have hg:=hx.lt;have hst:=hx.strs;have HC:=namedE.eq_1 x.kind x.str x.names x.kids.length;have HWd:=zh (fun w=>word_any x.str w);have HFd:=fun w=>pfield_any ⟨x.str.toArray⟩ w
 rw[show(⟨x.str.toArray⟩:ByteArray).toList=x.str from by rw[ByteArray.toList_eq]]at HFd;obtain⟨np,nc,rfl⟩:=hst.lenOf;have HK8:=zh (fun w' (hb:Below w.heap.size w w')=>(hb.cell (p:=⟨g,o+8,none⟩) hg).trans x8);by_cases k2:x.kind=2
 ·have e2:(x.kind==2)=true:=by rw[k2];rfl
  rw[if_pos k2]at HC;clear hx h hst k2;cases hw:wordS x.str
  ·have HWd:=zh (fun w=>(show Calls _ _ _ w _ from by have:=HWd.out w;rw[hw]at this;exact this));rw[hw,show(!false)=true from rfl,Bool.true_and,←field_word hw]at HC;cases hfb:fieldB x.str
   ·rw[hfb]at HC HFd;have HC:=zh HC;have HFd:=zh HFd;go_in;go_wp2_with fail
    refine(HWd.out _).mono ?_;rintro e w1 ⟨rfl,rfl⟩;go_wp2_with fail
    refine(HFd.out _).mono ?_;rintro e w2 ⟨rfl,hb2⟩;have y8:=HK8.out _ hb2;go_wp2_with fail
    go_ret;exact⟨ret_val (by rw[HC.out];rfl),hb2⟩
   ·rw[hfb]at HC HFd;by_cases hn:x.names.length=0
    ·rw[show x.names.isEmpty=true from(isE_len _).trans (decide_eq_true hn)]at HC;have tn:((x.names.length:Int)==0)=true:=by rw[hn];rfl
     clear hn;have HC:=zh HC;have HFd:=zh HFd;go_in;go_wp2_with fail
     refine(HWd.out _).mono ?_;rintro e w1 ⟨rfl,rfl⟩;go_wp2_with fail
     refine(HFd.out _).mono ?_;rintro e w2 ⟨rfl,hb2⟩;have y8:=HK8.out _ hb2;go_wp2_with fail
     go_ret;exact⟨ret_val (by rw[HC.out];rfl),hb2⟩
    ·rw[show x.names.isEmpty=false from(isE_len _).trans (decide_eq_false hn)]at HC;have tn:((x.names.length:Int)==0)=false:=by rw[beq_eq_false_iff_ne];omega
     clear hn;have HC:=zh HC;have HFd:=zh HFd;go_in;go_wp2_with fail
     refine(HWd.out _).mono ?_;rintro e w1 ⟨rfl,rfl⟩;go_wp2_with fail
     refine(HFd.out _).mono ?_;rintro e w2 ⟨rfl,hb2⟩;have y8:=HK8.out _ hb2;go_wp2_with fail
     go_ret;exact⟨ret_val (by rw[HC.out];rfl),hb2⟩
  ·have HWd:=zh (fun w=>(show Calls _ _ _ w _ from by have:=HWd.out w;rw[hw]at this;exact this));rw[hw]at HC;have HC:=zh HC;go_in;go_wp2_with fail
   refine(HWd.out _).mono ?_;rintro e w1 ⟨rfl,rfl⟩;go_wp2_with fail
   go_ret;exact⟨ret_val (by rw[HC.out];rfl),Below.refl _ _⟩
 have e2:(x.kind==2)=false:=beq_eq_false_iff_ne.2 k2;by_cases k18:x.kind=18
 ·have e18:(x.kind==18)=true:=by rw[k18];rfl
  rw[if_neg k2,if_pos k18]at HC;clear hx h hst k2 k18;cases hfb:fieldB x.str
  ·rw[hfb]at HC HFd;have HC:=zh HC;have HFd:=zh HFd;go_in;go_wp2_with fail
   refine(HFd.out _).mono ?_;rintro e w2 ⟨rfl,hb2⟩;have y8:=HK8.out _ hb2;go_wp2_with fail
   go_ret;exact⟨ret_val (by rw[HC.out];rfl),hb2⟩
  ·rw[hfb]at HC HFd;by_cases hn:x.names.length=0
   ·rw[show x.names.isEmpty=true from(isE_len _).trans (decide_eq_true hn)]at HC;have tn:((x.names.length:Int)==0)=true:=by rw[hn];rfl
    clear hn;have HC:=zh HC;have HFd:=zh HFd;go_in;go_wp2_with fail
    refine(HFd.out _).mono ?_;rintro e w2 ⟨rfl,hb2⟩;have y8:=HK8.out _ hb2;go_wp2_with fail
    go_ret;exact⟨ret_val (by rw[HC.out];rfl),hb2⟩
   ·rw[show x.names.isEmpty=false from(isE_len _).trans (decide_eq_false hn)]at HC;have tn:((x.names.length:Int)==0)=false:=by rw[beq_eq_false_iff_ne];omega
    clear hn;have HC:=zh HC;have HFd:=zh HFd;go_in;go_wp2_with fail
    refine(HFd.out _).mono ?_;rintro e w2 ⟨rfl,hb2⟩;have y8:=HK8.out _ hb2;go_wp2_with fail
    go_ret;exact⟨ret_val (by rw[HC.out];rfl),hb2⟩
 have e18:(x.kind==18)=false:=beq_eq_false_iff_ne.2 k18;have hse:x.str.isEmpty=(⟨x.str.toArray⟩:ByteArray).toList.isEmpty:=by rw[ByteArray.toList_eq]
 by_cases k17:x.kind=17
 ·have e17:(x.kind==17)=true:=by rw[k17];rfl
  rw[if_neg k2,if_neg k18,if_pos k17]at HC;have h3':∀ i,i<x.names.length→∃ g off,np=some ⟨g,off,none⟩∧g<w.heap.size∧∀ j,j<x.names.length→w.cell? ⟨g,off+j,none⟩=some (.string ⟨(x.names.getD j []).toArray⟩):=by
   obtain⟨_,_,h3⟩:=hst;rcases h3 with ⟨h3,p,c,hp⟩|⟨g,off,cap,hp,hg,hc⟩
   ·intro i hi;rw[h3]at hi;simp at hi
   ·cases hp
    exact fun i hi=>⟨g,off,rfl,hg,hc⟩
  have H4:=zh h3';have hNb:=hst.1;have HKx:=zh (fun w' (hb:Below w.heap.size w w')=>(show w'.cell? ⟨g,o,none⟩=some (.int .i64 x.kind)∧w'.cell? ⟨g,o+1,none⟩=some (.string ⟨x.str.toArray⟩)∧w'.cell? ⟨g,o+8,none⟩=some (.slice np x.names.length nc)∧w'.cell? ⟨g,o+9,none⟩=some (.slice p x.kids.length cap) from⟨(hb.cell (p:=⟨g,o,none⟩) hg).trans x0,(hb.cell (p:=⟨g,o+1,none⟩) hg).trans x1,(hb.cell (p:=⟨g,o+8,none⟩) hg).trans x8,(hb.cell (p:=⟨g,o+9,none⟩) hg).trans x9⟩));clear h3' hx h hst k2 k18 k17 HK8 HWd HFd;rw[hse]at HC;have HNo:=zh (fun i hi hk=>rowE_no (l:=x.names) (i:=i) hi hk);have HYes:=zh (fun h=>(rowE_iff x.names).2 h);generalize x.names=l at *;generalize hN:l.length=N at *;generalize hR:rowE l=R at *;generalize x.kids.length=M at *;generalize (⟨x.str.toArray⟩:ByteArray)=S at *;have HN:=zh hN;clear hN hR hse;have HC:=zh HC;have hB0:=Below.refl w.heap.size w;have HG:=zh hg;generalize hgh:w.heap.size=H at *;have HH:=zh hgh;clear hgh hg;go_in;go_wp2_with fail
  go_loopw [38] (fun iv wr=>∃ i:Nat,i≤N∧iv=.int .i64 i∧Below H w wr∧Hid (∀ j,j<i→okAtE l j=true)) (fun iv _=>N - (intOf iv).toNat)
  case atStart=>exact⟨0,by omega,rfl,hB0,fun j hj=>absurd hj (by omega)⟩
  case round =>
   clear x0 x1 x8 x9 hB0;obtain⟨i,hi,rfl,hB,hall⟩:=hrel;have hHw:H≤wr.heap.size:=by have:=hB.size;rw[HH.out]at this;exact this
   obtain⟨x0,x1,x8,x9⟩:=HKx.out _ hB;by_cases hlt:i<N
   ·have t0:decide ((i:Int)<(N:Int))=true:=by simp;omega
    obtain⟨ga,off,rfl,hga,hc⟩:=H4.out i hlt;have z1:wr.cell? ⟨ga,off+i,none⟩=some (.string ⟨(l.getD i []).toArray⟩):=(hB.cell (p:=⟨ga,off+i,none⟩) hga).trans (hc i hlt);have hy:∀ wx,Below wr.heap.size wr wx→wx.cell? ⟨ga,off+(i - 1),none⟩=some (.string ⟨(l.getD (i - 1) []).toArray⟩)∧wx.cell? ⟨g,o+8,none⟩=some (.slice (some ⟨ga,off,none⟩) N nc):=fun wx hx=>⟨((hB.trans (hx.mono hHw)).cell (p:=⟨ga,off+(i - 1),none⟩) hga).trans (hc (i - 1) (by omega)),(HKx.out _ (hB.trans (hx.mono hHw))).2.2.1⟩
    have hnm:=fun w=>pfield_any ⟨(l.getD i []).toArray⟩ w
    rw[show(⟨(l.getD i []).toArray⟩:ByteArray).toList=l.getD i [] from by rw[ByteArray.toList_eq]]at hnm;have HNm:=zh hnm;have HY2:=zh hy;have HOk:=zh (okAtE.eq_def l i);have b1:(0:Int)≤(i:Int):=by omega
    have b2:(i:Int)<(N:Int):=by omega
    clear hc hnm hy;have HAll:=zh (fun(h:okAtE l i=true) j (hj:j<i+1)=>(show okAtE l j=true from by
     rcases Nat.lt_or_ge j i with g|g
     ·exact hall.out j g
     ·rw[show j=i by omega];exact h))
    have HNi:=zh (HNo.out i hlt);generalize hA:l.getD i []=A at *;generalize hB':l.getD (i - 1) []=B at *;clear hA hB';cases hb:fieldB A
    ·rw[hb]at HNm HOk;have HX:=zh (HNi.out (by rw[HOk.out];rfl));go_wp2_with fail
     refine(HNm.out _).mono ?_;rintro e w5 ⟨rfl,hb5⟩;go_wp2_with fail
     go_ret;exact⟨ret_val (by rw[HC.out,HX.out,Bool.and_false,Bool.false_and]<;>rfl),by rw[HH.out];exact hB.trans (hb5.mono hHw)⟩
    ·rw[hb]at HNm HOk;by_cases hi0:i=0
     ·have t1:decide ((0:Int)<(i:Int))=false:=by simp;omega
      have t1':¬ 0<i:=by omega
      have t1n:decide (0<i)=false:=by simp;omega
      have HY:=zh (HAll.out (by rw[HOk.out,decide_eq_true hi0];rfl));clear hi0;go_wp2_with fail
      refine(HNm.out _).mono ?_;rintro e w5 ⟨rfl,hb5⟩;go_wp2_with fail
      go_roundw
      case rel=>exact⟨i+1,by omega,by go_num,hB.trans (hb5.mono hHw),HY.out⟩
      case measure=>simp[intOf];omega
     ·have t1:decide ((0:Int)<(i:Int))=true:=by simp;omega
      have t1p:0<i:=by omega
      have t1n:decide (0<i)=true:=by simp;omega
      have w1:IntKind.i64.wrap ((i:Int) - 1)=((i - 1:Nat):Int):=by rw[IntKind.wrap_i64];omega
      have w2:(0:Int)≤((i - 1:Nat):Int):=by omega
      have w3:((i - 1:Nat):Int)<(N:Int):=by omega
      have e1:(i:Int) - 1=((i - 1:Nat):Int):=by omega
      have HI:=zh (decide_eq_false hi0);clear hi0;cases hl:Op.bytesLess B A
      ·have HX:=zh (HNi.out (by rw[HOk.out,HI.out,hl];rfl));go_wp2_with fail
       refine(HNm.out _).mono ?_;rintro e w5 ⟨rfl,hb5⟩;obtain⟨y1,y8⟩:=HY2.out _ hb5;go_wp2_with fail
       go_ret;exact⟨ret_val (by rw[HC.out,HX.out,Bool.and_false,Bool.false_and]<;>rfl),by rw[HH.out];exact hB.trans (hb5.mono hHw)⟩
      ·have HY:=zh (HAll.out (by rw[HOk.out,HI.out,hl];rfl));go_wp2_with fail
       refine(HNm.out _).mono ?_;rintro e w5 ⟨rfl,hb5⟩;obtain⟨y1,y8⟩:=HY2.out _ hb5;go_wp2_with fail
       go_roundw
       case rel=>exact⟨i+1,by omega,by go_num,hB.trans (hb5.mono hHw),HY.out⟩
       case measure=>simp[intOf];omega
   ·have t0:decide ((i:Int)<(N:Int))=false:=by simp;omega
    have hr:=HYes.out (fun j hj=>hall.out j (by omega));have HR:=zh hr;clear hr;have hfin:∀ n,Below w.heap.size w (wr.drewN n):=fun n=>by rw[HH.out];exact⟨hB.os,hB.tape,hB.output,hB.size,hB.block⟩
    have HFin:=zh hfin;clear hfin;by_cases c3:S.toList=[]
    ·have t3:S.toList.isEmpty=true:=by rw[c3];rfl
     by_cases c4:N=M
     ·have t4:((N:Int)==(M:Int))=true:=by rw[c4];simp
      have HE:=zh (decide_eq_true c4);clear c4;have HS:=zh t3;go_wp2_with fail
      go_quiet (fail)
      go_wp2_with fail
      go_ret;exact⟨ret_val (by rw[HC.out,HR.out,HE.out,HS.out];rfl),HFin.out _⟩
     ·have t4:((N:Int)==(M:Int))=false:=by rw[beq_eq_false_iff_ne];omega
      have HE:=zh (decide_eq_false c4);clear c4;have HS:=zh t3;go_wp2_with fail
      go_quiet (fail)
      go_wp2_with fail
      go_ret;exact⟨ret_val (by rw[HC.out,HR.out,HE.out,HS.out];rfl),HFin.out _⟩
    ·have t3:S.toList.isEmpty=false:=by cases hh:S.toList with|nil=>exact absurd hh c3|cons a b=>rfl
     have HS:=zh t3;go_wp2_with fail
     go_quiet (fail)
     go_wp2_with fail
     go_ret;exact⟨ret_val (by rw[HC.out,HS.out];rfl),HFin.out _⟩
 have e17:(x.kind==17)=false:=beq_eq_false_iff_ne.2 k17;rw[if_neg k2,if_neg k18,if_neg k17,hse,isE_len x.names]at HC;clear hx h hst k2 k18 k17 hse HFd HWd HK8;generalize (⟨x.str.toArray⟩:ByteArray)=S at *;generalize x.names.length=N at *;have hB0:=Below.refl w.heap.size w;by_cases c3:S.toList=[]
 ·have t3:S.toList.isEmpty=true:=by rw[c3];rfl
  rw[t3]at HC;by_cases hn:N=0
  ·have tn:((N:Int)==0)=true:=by rw[hn];rfl
   rw[decide_eq_true hn]at HC;clear hn;have HC:=zh HC;go_in;go_wp2_with fail
   go_ret;exact⟨ret_val (by rw[HC.out];rfl),hB0⟩
  ·have tn:((N:Int)==0)=false:=by rw[beq_eq_false_iff_ne];omega
   rw[decide_eq_false hn]at HC;clear hn;have HC:=zh HC;go_in;go_wp2_with fail
   go_ret;exact⟨ret_val (by rw[HC.out];rfl),hB0⟩
 ·have t3:S.toList.isEmpty=false:=by cases hh:S.toList with|nil=>exact absurd hh c3|cons a b=>rfl
  rw[t3]at HC;have HC:=zh HC;go_in;go_wp2_with fail
  go_ret;exact⟨ret_val (by rw[HC.out];rfl),hB0⟩
end
end Go.Proofs.YtaaaaggmhjhkkaaGreatDoor
