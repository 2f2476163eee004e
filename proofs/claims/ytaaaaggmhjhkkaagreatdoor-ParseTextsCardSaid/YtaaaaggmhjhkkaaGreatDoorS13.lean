/-
  Yi, Sh, Q3, Yl, Ym, Yo, Y5, Y6, Y7, Ys, Tx, U1, An, U2 in one text.
-/
import Derived.Deep.AppendLies
import Derived.Deep.CutBlock
import Derived.Deep.DeepCutAuto
import Derived.StillTailTactics
import Derived.Test.YtaaaaggmhjhkkaaGreatDoorS12
import Derived.Test.YtaaaaggmhjhkkaaGreatDoorCl
set_option maxRecDepth 100000
set_option maxHeartbeats 8000000
namespace Go.Proofs.YtaaaaggmhjhkkaaGreatDoor
section
open Go.RowKit
def StrsIn (S:Nat→Prop) (w:World) (l:List (List UInt8)) (v:Value):Prop :=
 l.length≤140737488355328∧(∀ s ∈ l,s.length≤140737488355328) ∧
 ((l=[]∧∃ p c,v=.slice p 0 c)∨∃ g off cap,v=.slice (some ⟨g,off,none⟩) l.length cap∧(S g∧g<w.heap.size)∧∀ i,i<l.length→w.cell? ⟨g,off+i,none⟩=some (.string ⟨(l.getD i []).toArray⟩))
/-- the cells of a value, so many deep; its blocks are all of the kind S -/
def ValIn (S:Nat→Prop) (w:World):Nat→VT→Array Value→Prop
 | 0,_,_=>False
 | d+1,v,cs=>∃ pn pi,cs=#[.int .i64 v.kind,.int .i64 v.num,.float .f64 v.flt,.string ⟨v.str.toArray⟩,pn,pi] ∧
   (-9223372036854775808≤v.kind∧v.kind≤9223372036854775807)∧(-9223372036854775808≤v.num∧v.num≤9223372036854775807)∧F64 v.flt∧v.str.length≤140737488355328∧StrsIn S w v.names pn∧v.items.length≤140737488355328 ∧
   ((v.items=[]∧∃ p c,pi=.slice p 0 c)∨∃ g off cap,pi=.slice (some ⟨g,off,none⟩) v.items.length cap∧(S g∧g<w.heap.size) ∧
    ∀ i,i<v.items.length→∃ ds,ValIn S w d (v.items.getD i noVT) ds∧∀ j,j<6→w.cell? ⟨g,off+i*6+j,none⟩=ds[j]?)
theorem cell_same {w w':World} {g i:Nat} (h:w'.heap[g]?=w.heap[g]?):w'.cell? ⟨g,i,none⟩=w.cell? ⟨g,i,none⟩:=by
 unfold World.cell?;simp only[h]
theorem StrsIn.at {S:Nat→Prop} {w:World} {l:List (List UInt8)} {v:Value} (h:StrsIn S w l v):Strs w l v:=by
 obtain⟨h1,h2,h|⟨g,off,cap,h3,h4,h5⟩⟩:=h
 ·exact⟨h1,h2,.inl h⟩
 ·exact⟨h1,h2,.inr ⟨g,off,cap,h3,h4.2,h5⟩⟩
theorem ValIn.at {S:Nat→Prop} {w:World}:∀ {d:Nat} {v:VT} {cs:Array Value},ValIn S w d v cs→ValAt w d v cs
 | 0,_,_,h=>h.elim
 | d+1,v,cs,h=>by
  obtain⟨pn,pi,h1,h2,h3,h4,h5,h6,h7,h8⟩:=h;refine⟨pn,pi,h1,h2,h3,h4,h5,h6.at,h7,?_⟩;rcases h8 with h8|⟨g,off,cap,a1,a2,a3⟩
  ·exact .inl h8
  ·refine .inr ⟨g,off,cap,a1,a2.2,fun i hi=>?_⟩;obtain⟨ds,b1,b2⟩:=a3 i hi;exact⟨ds,b1.at,b2⟩
/-- another kind that holds each of its blocks; another world that has them all as they were -/
theorem StrsIn.kept {S T:Nat→Prop} {w w':World} (hs:w.heap.size≤w'.heap.size) (hk:∀ g,S g→g<w.heap.size→T g∧w'.heap[g]?=w.heap[g]?) {l:List (List UInt8)} {v:Value} (h:StrsIn S w l v):StrsIn T w' l v:=by
 obtain⟨h1,h2,h|⟨g,off,cap,h3,h4,h5⟩⟩:=h
 ·exact⟨h1,h2,.inl h⟩
 ·obtain⟨k1,k2⟩:=hk g h4.1 h4.2;exact⟨h1,h2,.inr ⟨g,off,cap,h3,⟨k1,Nat.lt_of_lt_of_le h4.2 hs⟩,fun i hi=>(cell_same k2).trans (h5 i hi)⟩⟩
theorem ValIn.kept {S T:Nat→Prop} {w w':World} (hs:w.heap.size≤w'.heap.size) (hk:∀ g,S g→g<w.heap.size→T g∧w'.heap[g]?=w.heap[g]?):∀ {d:Nat} {v:VT} {cs:Array Value},ValIn S w d v cs→ValIn T w' d v cs
 | 0,_,_,h=>h.elim
 | d+1,v,cs,h=>by
  obtain⟨pn,pi,h1,h2,h3,h4,h5,h6,h7,h8⟩:=h;refine⟨pn,pi,h1,h2,h3,h4,h5,h6.kept hs hk,h7,?_⟩;rcases h8 with h8|⟨g,off,cap,a1,a2,a3⟩
  ·exact .inl h8
  ·obtain⟨k1,k2⟩:=hk g a2.1 a2.2;refine .inr ⟨g,off,cap,a1,⟨k1,Nat.lt_of_lt_of_le a2.2 hs⟩,fun i hi=>?_⟩;obtain⟨ds,b1,b2⟩:=a3 i hi;exact⟨ds,ValIn.kept hs hk b1,fun j hj=>(cell_same k2).trans (b2 j hj)⟩
/-- behind a call that leaves all blocks but some as they are -/
theorem ValIn.fr {S:Nat→Prop} {w w':World} {l:List Nat} (hf:Fr l w w') (hS:∀ g ∈ l,¬ S g) {d:Nat} {v:VT} {cs:Array Value} (h:ValIn S w d v cs):ValIn S w' d v cs :=
 h.kept hf.size fun g hg hl=>⟨hg,hf.block g hl fun hm=>hS g hm hg⟩
/-- a leaf -/
theorem ValIn.leaf {S:Nat→Prop} {w:World} {k n:Int} {f:Nat} {t:List UInt8} (hk : -9223372036854775808≤k∧k≤9223372036854775807) (hn : -9223372036854775808≤n∧n≤9223372036854775807) (hf:F64 f) (ht:t.length≤140737488355328) (d:Nat) :
  ValIn S w (d+1) (.mk k n f t [] []) #[.int .i64 k,.int .i64 n,.float .f64 f,.string ⟨t.toArray⟩,.slice none 0 0,.slice none 0 0] :=
 ⟨_,_,rfl,hk,hn,hf,ht,⟨by simp[VT.names],(fun s hs=>nomatch hs),.inl ⟨rfl,_,_,rfl⟩⟩,by simp[VT.items],.inl ⟨rfl,_,_,rfl⟩⟩
end
section
open Go.RowKit
/-- given up with an error's number -/
abbrev gave (x:Int):Ending:=.panicked [{ v:=.iface 32 (.int .i64 x),recovered:=false }]
/-- a way that has come to its end within a region -/
theorem shut_way {X:Prop} {w:World} (h:X) (_:wpAny Tryz.prog .any #[] (fun _ _ _=>True) 0 #[] { tmps:=#[],defers:=[] } w):X:=h
theorem ValAt.sixS {w:World} {d:Nat} {v:VT} {cs:Array Value} (h:ValAt w d v cs):∃ pp pc p cap,cs=#[.int .i64 v.kind,.int .i64 v.num,.float .f64 v.flt,.string ⟨v.str.toArray⟩,.slice pp v.names.length pc,.slice p v.items.length cap]:=by
 cases d with
 | zero=>exact h.elim
 | succ d =>
  obtain⟨pn,p,cap,h0⟩:=h.six;obtain⟨a,b,h1,_,_,_,_,h6,_⟩:=h;obtain⟨pp,pc,hp⟩:=h6.lenOf;have h2:=h0.symm.trans h1;simp only[Array.mk.injEq,List.cons.injEq]at h2;exact⟨pp,pc,p,cap,by rw[h0,h2.2.2.2.2.1,hp]⟩
end
section
open Go
theorem right_kind {v:VT} {far:Nat} (h:rightV v far=true):v.kind=1∨v.kind=2∨v.kind=3∨v.kind=4∨v.kind=5∨v.kind=6:=by
 cases v with
 | mk k n f s ns its =>
  rw[rightV]at h;show k=1∨k=2∨k=3∨k=4∨k=5∨k=6;split at h
  ·cases h
  by_cases h1:k=1;· exact .inl h1
  by_cases h2:k=2;· exact .inr (.inl h2)
  by_cases h3:k=3;· exact .inr (.inr (.inl h3))
  by_cases h4:k=4;· exact .inr (.inr (.inr (.inl h4)))
  by_cases h5:k=5;· exact .inr (.inr (.inr (.inr (.inl h5))))
  by_cases h6:k=6;· exact .inr (.inr (.inr (.inr (.inr h6))))
  rw[if_neg h1,if_neg h2,if_neg h3,if_neg h4,if_neg h5,if_neg h6]at h;cases h
end
section
open Go.RowKit
/-- a block behind P that is neither row -/
def Sep (P:Nat) (pn pi:Value) (g:Nat):Prop:=P<g∧pn.ownBlock≠some g∧pi.ownBlock≠some g
structure Rows (P f:Nat) (ns:List (List UInt8)) (its:List VT) (pn pi:Value) (w:World):Prop where
 hn:w.ownsRow (P+1) 9 1 pn ns.length (ns.map fun s=>.string ⟨s.toArray⟩)
 hi:∃ xs,w.ownsRow (P+1) 26 6 pi its.length xs∧∀ i,i<its.length→∃ ds,ds.size=6∧ValIn (Sep P pn pi) w f (its.getD i noVT) ds∧∀ j,j<6→xs[i*6+j]?=ds[j]?
 ne:∀ g,pn.ownBlock=some g→pi.ownBlock≠some g
theorem own_lt {w:World} {base:Nat} {e:TypeId} {size:Nat} {v:Value} {n:Nat} {xs:List Value} (h:w.ownsRow base e size v n xs) {g:Nat} (hg:v.ownBlock=some g):base≤g∧g<w.heap.size :=
 (World.ownsRowF_of h).lt g hg
theorem ValIn.grown {S T:Nat→Prop} {w w':World} {row:Option Nat} (hg:w.grownBy w' row) (hk:∀ g,S g→g<w.heap.size→T g∧some g≠row) {d:Nat} {v:VT} {cs:Array Value} (h:ValIn S w d v cs):ValIn T w' d v cs :=
 h.kept hg.size fun g h1 h2=>⟨(hk g h1 h2).1,hg.block g h2 (hk g h1 h2).2⟩
theorem Fr.grown {b:Nat} {w w':World} (h:Fr [b] w w'):w.grownBy w' (some b):=⟨h.os,h.tape,h.output,h.size,fun k hk hn=>h.block k hk (by simp;intro e;exact hn (by rw[e]))⟩
end
section
open Go.RowKit
theorem row_cell {w:World} {base:Nat} {e:TypeId} {size g n cap:Nat} {xs:List Value} (h:w.ownsRow base e size (.slice (some ⟨g,0,none⟩) n cap) n xs) {j:Nat} {u:Value} (hu:xs[j]?=some u):w.cell? ⟨g,0+j,none⟩=some u:=by
 have:=World.ownsRow.cells (g:=g) h rfl j u hu;have hadd:(⟨g,0,none⟩:Addr).add j=⟨g,j,none⟩:=by unfold Addr.add;split<;>simp_all
 rw[hadd]at this;rw[Nat.zero_add];exact this
end
section
open Go.RowKit
theorem ValIn.six {S:Nat→Prop} {w:World}:∀ {d:Nat} {v:VT} {cs:Array Value},ValIn S w d v cs→∃ na nl nc ia il ic,cs=#[.int .i64 v.kind,.int .i64 v.num,.float .f64 v.flt,.string ⟨v.str.toArray⟩,.slice na nl nc,.slice ia il ic]
 | 0,_,_,h=>h.elim
 | d+1,v,cs,h=>by
  obtain⟨pn,pi,rfl,_,_,_,_,⟨_,_,h6⟩,_,h8⟩:=h;rcases h6 with ⟨_,a,c,rfl⟩|⟨g,o,c,rfl,_⟩<;>rcases h8 with ⟨_,a',c',rfl⟩|⟨g',o',c',rfl,_⟩<;>exact⟨_,_,_,_,_,_,rfl⟩
end
section
open Go
theorem right0 (v:VT):rightV v 0=false:=by cases v;rw[rightV];rfl
theorem right1 {v:VT} {f:Nat} (hk:v.kind=1):rightV v (f+1)=(bareV v true false false false&&decide (v.num=0∨v.num=1)):=by
 cases v with
 | mk k n fl s ns its =>
  have hk:k=1:=hk;subst hk;rw[rightV,if_neg (by omega),if_pos rfl];unfold bareV VT.num VT.flt VT.str VT.names VT.items;rw[Bool.eq_iff_iff];simp only[Bool.true_or,Bool.false_or,Bool.true_and,Bool.and_eq_true,decide_eq_true_eq];constructor
  ·rintro⟨⟨⟨⟨a,b⟩,c⟩,d⟩,e⟩;exact⟨⟨c,d,b,a⟩,e⟩
  ·rintro⟨⟨c,d,b,a⟩,e⟩;exact⟨⟨⟨⟨a,b⟩,c⟩,d⟩,e⟩
theorem right2 {v:VT} {f:Nat} (hk:v.kind=2):rightV v (f+1)=bareV v true false false false:=by
 cases v with
 | mk k n fl s ns its =>
  have hk:k=2:=hk;subst hk;rw[rightV,if_neg (by omega),if_neg (by omega),if_pos rfl];unfold bareV VT.num VT.flt VT.str VT.names VT.items;rw[Bool.eq_iff_iff];simp only[Bool.true_or,Bool.false_or,Bool.true_and,Bool.and_eq_true];constructor
  ·rintro⟨⟨⟨a,b⟩,c⟩,d⟩;exact⟨c,d,b,a⟩
  ·rintro⟨c,d,b,a⟩;exact⟨⟨⟨a,b⟩,c⟩,d⟩
theorem right3 {v:VT} {f:Nat} (hk:v.kind=3):rightV v (f+1)=bareV v false true false false:=by
 cases v with
 | mk k n fl s ns its =>
  have hk:k=3:=hk;subst hk;rw[rightV,if_neg (by omega),if_neg (by omega),if_neg (by omega),if_pos rfl];unfold bareV VT.num VT.flt VT.str VT.names VT.items;rw[Bool.eq_iff_iff];simp only[Bool.true_or,Bool.false_or,Bool.true_and,Bool.and_eq_true];constructor
  ·rintro⟨⟨⟨a,b⟩,c⟩,d⟩;exact⟨c,d,b,a⟩
  ·rintro⟨c,d,b,a⟩;exact⟨⟨⟨a,b⟩,c⟩,d⟩
theorem right4 {v:VT} {f:Nat} (hk:v.kind=4):rightV v (f+1)=(bareV v false false true false&&decide (v.str.length≤200)):=by
 cases v with
 | mk k n fl s ns its =>
  have hk:k=4:=hk;subst hk;rw[rightV,if_neg (by omega),if_neg (by omega),if_neg (by omega),if_neg (by omega),if_pos rfl];unfold bareV VT.num VT.flt VT.str VT.names VT.items;rw[Bool.eq_iff_iff];simp only[Bool.true_or,Bool.false_or,Bool.true_and,Bool.and_eq_true,decide_eq_true_eq];constructor
  ·rintro⟨⟨⟨⟨a,b⟩,c⟩,d⟩,e⟩;exact⟨⟨d,c,b,a⟩,e⟩
  ·rintro⟨⟨d,c,b,a⟩,e⟩;exact⟨⟨⟨⟨a,b⟩,c⟩,d⟩,e⟩
theorem right5 {v:VT} {f:Nat} (hk:v.kind=5):rightV v (f+1)=(bareV v false false false true&&(decide (v.names.length=0)&&rightL v.items f)):=by
 cases v with
 | mk k n fl s ns its =>
  have hk:k=5:=hk;subst hk;rw[rightV,if_neg (by omega),if_neg (by omega),if_neg (by omega),if_neg (by omega),if_neg (by omega),if_pos rfl];unfold bareV VT.num VT.flt VT.str VT.names VT.items;rw[Bool.eq_iff_iff];simp only[Bool.true_or,Bool.false_or,Bool.and_true,Bool.and_eq_true,decide_eq_true_eq,Nat.add_sub_cancel,List.length_eq_zero_iff,List.isEmpty_iff];constructor
  ·rintro⟨⟨⟨⟨a,b⟩,c⟩,d⟩,e⟩;exact⟨⟨b,a,c⟩,d,e⟩
  ·rintro⟨⟨b,a,c⟩,d,e⟩;exact⟨⟨⟨⟨a,b⟩,c⟩,d⟩,e⟩
theorem right6 {v:VT} {f:Nat} (hk:v.kind=6):rightV v (f+1)=(decide (v.names.length=v.items.length)&&(risesB v.names&&(bareV v false false false true&&rightL v.items f))):=by
 cases v with
 | mk k n fl s ns its =>
  have hk:k=6:=hk;subst hk;rw[rightV,if_neg (by omega),if_neg (by omega),if_neg (by omega),if_neg (by omega),if_neg (by omega),if_neg (by omega),if_pos rfl];unfold bareV VT.num VT.flt VT.str VT.names VT.items;rw[Bool.eq_iff_iff];simp only[Bool.true_or,Bool.false_or,Bool.and_true,Bool.and_eq_true,decide_eq_true_eq,Nat.add_sub_cancel,List.isEmpty_iff];constructor
  ·rintro⟨⟨⟨⟨a,b⟩,c⟩,d,e⟩,f⟩;exact⟨e,d,⟨b,a,c⟩,f⟩
  ·rintro⟨e,d,⟨b,a,c⟩,f⟩;exact⟨⟨⟨⟨a,b⟩,c⟩,d,e⟩,f⟩
theorem rightX {v:VT} {f:Nat} (h1:v.kind≠1) (h2:v.kind≠2) (h3:v.kind≠3) (h4:v.kind≠4) (h5:v.kind≠5) (h6:v.kind≠6):rightV v f=false:=by
 cases hr:rightV v f with
 | false=>rfl
 | true=>rcases right_kind hr with h|h|h|h|h|h<;>exact absurd h ‹_›
theorem rightL_drop {l:List VT} {i f:Nat} (hi:i<l.length):rightL (l.drop i) f=(rightV (l.getD i noVT) f&&rightL (l.drop (i+1)) f):=by
 have e:l.getD i noVT=l[i]:=by simp[List.getD,hi]
 rw[List.drop_eq_getElem_cons hi,rightL,e]
theorem rightL_end {l:List VT} {i f:Nat} (hi:l.length≤i):rightL (l.drop i) f=true:=by
 rw[List.drop_eq_nil_of_le hi,rightL]
end
section
open Go.RowKit
theorem shr_one {k:Int} (h : -9223372036854775808≤k∧k≤9223372036854775807):(k / 2==0)=decide (k=0∨k=1):=by
 rw[Bool.eq_iff_iff,beq_iff_eq,decide_eq_true_eq];omega
theorem vright_any:∀ (d:Nat) (v:VT) (g o n far:Nat) (w:World),PtrTo w d v g o→n+far=13 →
  Calls Tryz.prog 102 #[.pointer (some ⟨g,o,none⟩),.int .i64 (n:Int)] w (Gives (.bool (rightV v far)) w)
 | 0,_,_,_,_,_,_,h,_=>by obtain⟨_,_,h,_⟩:=h;exact h.elim
 | d+1,v,g,o,n,0,w,h,hn=>by
  have t0:decide ((12:Int)<(n:Int))=true:=by simp;omega
  have HR:=zh (right0 v);go_in;go_wp2_with fail
  go_ret;exact⟨ret_val (by rw[HR.out];rfl),Below.refl _ _⟩
 | d+1,v,g,o,n,far+1,w,h,hn=>by
  have t0:decide ((12:Int)<(n:Int))=false:=by simp;omega
  have ih:=zh (vright_any d);have Bn:=zh (fun w (h:PtrTo w (d+1) v g o)=>bare_n d v g o w h);have Bf:=zh (fun w (h:PtrTo w (d+1) v g o)=>bare_f d v g o w h);have Bs:=zh (fun w (h:PtrTo w (d+1) v g o)=>bare_s d v g o w h);have Br:=zh (fun w (h:PtrTo w (d+1) v g o)=>bare_r d v g o w h);have hp:=h;obtain⟨pn,p,cap,hg,x0,x1,x2,x3,x4,x5,h4,h5,h6,h7,h9⟩:=h.open
  by_cases k1:v.kind=1
  ·have t1:(v.kind==1)=true:=by rw[k1];rfl
   have hnum : -9223372036854775808≤v.num∧v.num≤9223372036854775807:=by
    obtain⟨_,cs,⟨_,_,_,_,h3,_⟩,_⟩:=h;exact h3
   have hsh:=shr_one hnum;have HR:=right1 (f:=far) k1;clear k1 h9 h6;have HB:=Bn.out w hp;generalize bareV v true false false false=b1 at *;rw[←hsh]at HR;cases b1
   ·have HR:=zh HR;have HB:=zh HB;clear hsh;go_in;go_wp2_with fail
    refine(HB.out).mono ?_;rintro e w2 ⟨rfl,rfl⟩;go_wp2_with fail
    go_ret;exact⟨ret_val (by rw[HR.out];rfl),Below.refl _ _⟩
   ·cases hk2:(v.num / 2==0)
    all_goals
     rw[hk2]at HR;have HR:=zh HR;have HB:=zh HB;clear hsh;go_in;go_wp2_with fail
     refine(HB.out).mono ?_;rintro e w2 ⟨rfl,rfl⟩;go_wp2_with fail
     go_ret;exact⟨ret_val (by rw[HR.out];rfl),Below.refl _ _⟩
  have t1:(v.kind==1)=false:=beq_eq_false_iff_ne.2 k1;by_cases k2:v.kind=2
  ·have t2:(v.kind==2)=true:=by rw[k2];rfl
   have HR:=zh (right2 (f:=far) k2);have HB:=zh (Bn.out w hp);clear k2 k1 h9 h6;go_in;go_wp2_with fail
   refine(HB.out).mono ?_;rintro e w2 ⟨rfl,rfl⟩;go_wp2_with fail
   go_ret;exact⟨ret_val (by rw[HR.out];rfl),Below.refl _ _⟩
  have t2:(v.kind==2)=false:=beq_eq_false_iff_ne.2 k2;by_cases k3:v.kind=3
  ·have t3:(v.kind==3)=true:=by rw[k3];rfl
   have HR:=zh (right3 (f:=far) k3);have HB:=zh (Bf.out w hp);clear k3 k2 k1 h9 h6;go_in;go_wp2_with fail
   refine(HB.out).mono ?_;rintro e w2 ⟨rfl,rfl⟩;go_wp2_with fail
   go_ret;exact⟨ret_val (by rw[HR.out];rfl),Below.refl _ _⟩
  have t3:(v.kind==3)=false:=beq_eq_false_iff_ne.2 k3;by_cases k4:v.kind=4
  ·have t4:(v.kind==4)=true:=by rw[k4];rfl
   have HR:=right4 (f:=far) k4;have hlen:(⟨v.str.toArray⟩:ByteArray).size=v.str.length:=by show v.str.toArray.size=_;simp
   clear k4 k3 k2 k1 h9 h6;have HB:=Bs.out w hp;generalize bareV v false false true false=b1 at *;rw[←hlen]at HR;generalize (⟨v.str.toArray⟩:ByteArray)=S at *;cases b1
   ·have HR:=zh HR;have HB:=zh HB;clear hlen;go_in;go_wp2_with fail
    refine(HB.out).mono ?_;rintro e w2 ⟨rfl,rfl⟩;go_wp2_with fail
    go_ret;exact⟨ret_val (by rw[HR.out];rfl),Below.refl _ _⟩
   ·by_cases h200:S.size≤200
    ·rw[decide_eq_true h200]at HR;have tl:decide ((S.size:Int)≤200)=true:=by simp;omega
     have HR:=zh HR;have HB:=zh HB;clear hlen;go_in;go_wp2_with fail
     refine(HB.out).mono ?_;rintro e w2 ⟨rfl,rfl⟩;go_wp2_with fail
     go_ret;exact⟨ret_val (by rw[HR.out];rfl),Below.refl _ _⟩
    ·rw[decide_eq_false h200]at HR;have tl:decide ((S.size:Int)≤200)=false:=by simp;omega
     have HR:=zh HR;have HB:=zh HB;clear hlen;go_in;go_wp2_with fail
     refine(HB.out).mono ?_;rintro e w2 ⟨rfl,rfl⟩;go_wp2_with fail
     go_ret;exact⟨ret_val (by rw[HR.out];rfl),Below.refl _ _⟩
  have t4:(v.kind==4)=false:=beq_eq_false_iff_ne.2 k4;obtain⟨pp,pc,rfl⟩:=h6.lenOf;by_cases k5:v.kind=5
  ·have t5:(v.kind==5)=true:=by rw[k5];rfl
   have t6:(v.kind==6)=false:=by rw[k5];rfl
   have HR:=right5 (f:=far) k5;have HB:=Br.out w hp;have H9:=zh h9;clear k5 k4 k3 k2 k1 h9 h6 h x1 x2 x3 h4 h5;generalize bareV v false false false true=b1 at *;generalize v.items=its at *;generalize v.names.length=N at *;generalize hM:its.length=M at *;have HM:=zh hM;clear hM;cases b1
   ·have HR:=zh HR;have HB:=zh HB;go_in;go_wp2_with fail
    refine(HB.out).mono ?_;rintro e w2 ⟨rfl,rfl⟩;go_wp2_with fail
    go_ret;exact⟨ret_val (by rw[HR.out];rfl),Below.refl _ _⟩
   ·by_cases hN:N=0
    ·have tN:decide ((0:Int)<(N:Int))=false:=by simp;omega
     have tn:¬ 0<N:=by omega
     rw[decide_eq_true hN]at HR;simp only[Bool.true_and]at HR;clear hN;have HR:=zh HR;have HB:=zh HB;have hB0:=Below.refl w.heap.size w;have HX5:=zh x5;have HG:=zh hg;generalize hgh:w.heap.size=H at hB0 H9;have HH:=zh hgh;clear hgh;go_in;go_wp2_with fail
     refine(HB.out).mono ?_;rintro e w2 ⟨rfl,rfl⟩;go_wp2_with fail
     go_loopw [90] (fun iv wr=>∃ i:Nat,i≤M∧iv=.int .i64 i∧Below H w wr∧Hid (rightL its far=rightL (its.drop i) far)) (fun iv _=>M - (intOf iv).toNat)
     case atStart=>exact⟨0,by omega,rfl,hB0,by show _=_;rw[List.drop_zero]⟩
     case round =>
      clear hB0;obtain⟨i,hi,rfl,hB,hE⟩:=hrel;have hHw:H≤wr.heap.size:=by have:=hB.size;rw[HH.out]at this;exact this
      have y5:wr.cell? ⟨g,o+5,none⟩=some (.slice p M cap):=(hB.cell (p:=⟨g,o+5,none⟩) (by rw[←HH.out];exact HG.out)).trans HX5.out;by_cases hlt:i<M
      ·have t7:decide ((i:Int)<(M:Int))=true:=by simp;omega
       obtain⟨g',o',rfl,hg',hv⟩:=H9.out i hlt;have hv2:=hv.kept (w':=wr) (by rw[HH.out];exact hB);have HC:=ih.out _ _ _ (n+1) far wr hv2 (by omega);have HD:=rightL_drop (l:=its) (i:=i) (f:=far) (by rw[HM.out];exact hlt);generalize its.getD i noVT=k at *;have b1:(0:Int)≤(i:Int):=by omega
       have b2:(i:Int)<(M:Int):=by omega
       have b3:((n:Int)+1)=((n+1:Nat):Int):=by omega
       rw[←b3]at HC;clear hv hv2 b3;cases hr:rightV k far
       ·rw[hr]at HC HD;have HC:=zh HC;have HD:=zh HD;go_wp2_with fail
        refine(HC.out).mono ?_;rintro e w5 ⟨rfl,hb5⟩;go_wp2_with fail
        go_ret;exact⟨ret_val (by rw[HR.out,hE.out,HD.out];rfl),by rw[HH.out];exact hB.trans (hb5.mono hHw)⟩
       ·rw[hr]at HC HD;have HC:=zh HC;have HD:=zh HD;go_wp2_with fail
        refine(HC.out).mono ?_;rintro e w5 ⟨rfl,hb5⟩;go_wp2_with fail
        go_roundw
        case rel=>exact⟨i+1,by omega,by go_num,hB.trans (hb5.mono hHw),by show _=_;rw[hE.out,HD.out,Bool.true_and]⟩
        case measure=>simp[intOf];omega
      ·have t7:decide ((i:Int)<(M:Int))=false:=by simp;omega
       have HF:=zh (rightL_end (l:=its) (i:=i) (f:=far) (by rw[HM.out];omega));go_wp2_with fail
       go_ret;exact⟨ret_val (by rw[HR.out,hE.out,HF.out];rfl),by rw[HH.out];exact hB⟩
    ·have tN:decide ((0:Int)<(N:Int))=true:=by simp;omega
     have tn:0<N:=by omega
     rw[decide_eq_false hN]at HR;clear hN;have HR:=zh HR;have HB:=zh HB;go_in;go_wp2_with fail
     refine(HB.out).mono ?_;rintro e w2 ⟨rfl,rfl⟩;go_wp2_with fail
     go_ret;exact⟨ret_val (by rw[HR.out];rfl),Below.refl _ _⟩
  have t5:(v.kind==5)=false:=beq_eq_false_iff_ne.2 k5;by_cases k6:v.kind=6
  ·have t6:(v.kind==6)=true:=by rw[k6];rfl
   have HR:=right6 (f:=far) k6;have HB:=zh (fun w h=>Br.out w h);have HRi:=fun w' (hb:Below w.heap.size w w')=>rising_any v.names _ w' (h6.kept hb)
   have H9:=zh h9;have HKp:=zh (fun w' (hb:Below w.heap.size w w')=>hp.kept hb);have HKc:=zh (fun w' (hb:Below w.heap.size w w')=>(show w'.cell? ⟨g,o+4,none⟩=some (.slice pp v.names.length pc)∧w'.cell? ⟨g,o+5,none⟩=some (.slice p v.items.length cap) from⟨(hb.cell (p:=⟨g,o+4,none⟩) hg).trans x4,(hb.cell (p:=⟨g,o+5,none⟩) hg).trans x5⟩));have HK0:=zh (fun w' (hb:Below w.heap.size w w')=>(hb.cell (p:=⟨g,o,none⟩) hg).trans x0);have HX5:=zh x5;have HG:=zh hg;clear k6 k5 k4 k3 k2 k1 h9 h6 h x1 x2 x3 h4 h5;generalize bareV v false false false true=b1 at *;generalize v.items=its at *;generalize risesB v.names=R at *;generalize v.names.length=N at *;generalize hM:its.length=M at *;have HM:=zh hM;clear hM;by_cases hNM:N=M
   ·subst hNM;rw[decide_eq_true rfl]at HR;cases R
    ·have HR:=zh HR;have HRi:=zh HRi;go_in;go_wp2_with fail
     go_region_held3 (fun w'=>w'.cell? ⟨g,o+4,none⟩=some (.slice pp N pc)∧w'.cell? ⟨g,o+5,none⟩=some (.slice p N cap)) (first|exact⟨x4,x5⟩|go_keep|exact HKc.out _ (undrew hb1)) ((go_at_call 126;(with_reducible refine(HRi.out _ ((Below.refl _ _).drew)).mono ?_);rintro e u1 ⟨rfl,hb1⟩))
     replace hb1:=undrew hb1;go_wp2_with fail
     go_ret;exact⟨ret_val (by rw[HR.out];rfl),hb1⟩
    ·have HRi:=zh HRi;cases b1
     ·have HR:=zh HR;go_in;go_wp2_with fail
      go_region_held3 (fun w'=>w'.cell? ⟨g,o+4,none⟩=some (.slice pp N pc)∧w'.cell? ⟨g,o+5,none⟩=some (.slice p N cap)) (first|exact⟨x4,x5⟩|go_keep|exact HKc.out _ (undrew hb1)) ((go_at_call 126;(with_reducible refine(HRi.out _ ((Below.refl _ _).drew)).mono ?_);rintro e u1 ⟨rfl,hb1⟩))
      replace hb1:=undrew hb1;go_wp2_with fail
      refine(HB.out _ (HKp.out _ hb1)).mono ?_;rintro e w2 ⟨rfl,rfl⟩;go_wp2_with fail
      go_ret;exact⟨ret_val (by rw[HR.out];rfl),hb1⟩
     ·simp only[Bool.true_and]at HR;have HR:=zh HR;go_in;go_wp2_with fail
      go_region_held3 (fun w'=>w'.cell? ⟨g,o+4,none⟩=some (.slice pp N pc)∧w'.cell? ⟨g,o+5,none⟩=some (.slice p N cap)) (first|exact⟨x4,x5⟩|go_keep|exact HKc.out _ (undrew hb1)) ((go_at_call 126;(with_reducible refine(HRi.out _ ((Below.refl _ _).drew)).mono ?_);rintro e u1 ⟨rfl,hb1⟩))
      replace hb1:=undrew hb1;have y0:=HK0.out _ hb1;go_wp2_with fail
      refine(HB.out _ (HKp.out _ hb1)).mono ?_;rintro e w2 ⟨rfl,rfl⟩;have y6:=(HKc.out _ hb1).2;have hB0:=hb1;generalize hgh:w.heap.size=H at hB0 H9;have HH:=zh hgh;clear hgh;clear x0 x4 x5 hb1;go_wp2_with fail
      go_loopw [90] (fun iv wr=>∃ i:Nat,i≤N∧iv=.int .i64 i∧Below H w wr∧Hid (rightL its far=rightL (its.drop i) far)) (fun iv _=>N - (intOf iv).toNat)
      case atStart=>exact⟨0,by omega,rfl,hB0,by show _=_;rw[List.drop_zero]⟩
      case round =>
       clear hB0;obtain⟨i,hi,rfl,hB,hE⟩:=hrel;have hHw:H≤wr.heap.size:=by have:=hB.size;rw[HH.out]at this;exact this
       have y5:wr.cell? ⟨g,o+5,none⟩=some (.slice p N cap):=(hB.cell (p:=⟨g,o+5,none⟩) (by rw[←HH.out];exact HG.out)).trans HX5.out;by_cases hlt:i<N
       ·have t7:decide ((i:Int)<(N:Int))=true:=by simp;omega
        obtain⟨g',o',rfl,hg',hv⟩:=H9.out i hlt;have hv2:=hv.kept (w':=wr) (by rw[HH.out];exact hB);have HC:=ih.out _ _ _ (n+1) far wr hv2 (by omega);have HD:=rightL_drop (l:=its) (i:=i) (f:=far) (by rw[HM.out];exact hlt);generalize its.getD i noVT=k at *;have b1:(0:Int)≤(i:Int):=by omega
        have b2:(i:Int)<(N:Int):=by omega
        have b3:((n:Int)+1)=((n+1:Nat):Int):=by omega
        rw[←b3]at HC;clear hv hv2 b3;cases hr:rightV k far
        ·rw[hr]at HC HD;have HC:=zh HC;have HD:=zh HD;go_wp2_with fail
         refine(HC.out).mono ?_;rintro e w5 ⟨rfl,hb5⟩;go_wp2_with fail
         go_ret;exact⟨ret_val (by rw[HR.out,hE.out,HD.out];rfl),by rw[HH.out];exact hB.trans (hb5.mono hHw)⟩
        ·rw[hr]at HC HD;have HC:=zh HC;have HD:=zh HD;go_wp2_with fail
         refine(HC.out).mono ?_;rintro e w5 ⟨rfl,hb5⟩;go_wp2_with fail
         go_roundw
         case rel=>exact⟨i+1,by omega,by go_num,hB.trans (hb5.mono hHw),by show _=_;rw[hE.out,HD.out,Bool.true_and]⟩
         case measure=>simp[intOf];omega
       ·have t7:decide ((i:Int)<(N:Int))=false:=by simp;omega
        have HF:=zh (rightL_end (l:=its) (i:=i) (f:=far) (by rw[HM.out];omega));go_wp2_with fail
        go_ret;exact⟨ret_val (by rw[HR.out,hE.out,HF.out];rfl),by rw[HH.out];exact hB⟩
   ·have tNM:((N:Int) != (M:Int))=true:=by rw[bne_iff_ne];omega
    rw[decide_eq_false hNM]at HR;have HR:=zh HR;go_in;go_wp2_with fail
    go_quiet (fail)
    go_wp2_with fail
    go_ret;exact⟨ret_val (by rw[HR.out];rfl),⟨rfl,rfl,rfl,Nat.le_refl _,fun _ _=>rfl⟩⟩
  have t6:(v.kind==6)=false:=beq_eq_false_iff_ne.2 k6;have HR:=zh (rightX (f:=far+1) k1 k2 k3 k4 k5 k6);clear k1 k2 k3 k4 k5 k6 h9 h6;go_in;go_wp2_with fail
  go_ret;exact⟨ret_val (by rw[HR.out];rfl),Below.refl _ _⟩
end
section
open Go.RowKit
theorem vRight_any (d:Nat) (v:VT) (cs:Array Value) (w:World) (h:ValAt w d v cs):Calls Tryz.prog 74 #[.agg cs] w (Gives (.bool (rightB v)) w):=by
 obtain⟨pn,p,cap,rfl⟩:=h.six;have hb:=h.box;have hB:Below w.heap.size w (w.alloc (.cells #[.int .i64 v.kind,.int .i64 v.num,.float .f64 v.flt,.string ⟨v.str.toArray⟩,pn,.slice p v.items.length cap] 26)):=(Below.refl _ _).alloc (Nat.le_refl _) _;have HP:=zh (vparts_any d v _ _ (h.kept hB));have HC:=zh (fun w' (hb':Below _ _ w')=>vright_any d v w.heap.size 0 1 12 w' (hb.kept hb') rfl);have hR:=rightB.eq_def v;clear hb h;by_cases h2:countV v 0≤200
 ·have t1:decide (((countV v 0:Nat):Int)≤200)=true:=by simp;omega
  rw[decide_eq_true h2,Bool.true_and]at hR;have HR:=zh hR;clear hR;generalize countV v 0=m at *;go_in;go_wp2_with fail
  refine(HP.out).mono ?_;rintro e w2 ⟨rfl,hb2⟩;go_wp2_with fail
  refine(HC.out _ hb2).mono ?_;rintro e w3 ⟨rfl,hb3⟩;go_wp2_with fail
  go_ret;exact⟨ret_val (by rw[HR.out];rfl),(hB.trans (hb2.mono hB.size)).trans (hb3.mono (Nat.le_trans hB.size hb2.size))⟩
 ·have t1:decide (((countV v 0:Nat):Int)≤200)=false:=by simp;omega
  rw[decide_eq_false h2,Bool.false_and]at hR;have HR:=zh hR;clear hR;generalize countV v 0=m at *;go_in;go_wp2_with fail
  refine(HP.out).mono ?_;rintro e w2 ⟨rfl,hb2⟩;go_wp2_with fail
  go_ret;exact⟨ret_val (by rw[HR.out];rfl),hB.trans (hb2.mono hB.size)⟩
end
section
open Go.RowKit
theorem nothing_any (d:Nat) (v:VT) (g o:Nat) (w:World) (h:PtrTo w (d+1) v g o) (hk:v.kind=0) :
  Calls Tryz.prog 54 #[.pointer (some ⟨g,o,none⟩)] w fun e w'=>e=.returned (.bool (bareV v false false false false))∧w=w':=by
 obtain⟨pn,p,cap,hg,x0,x1,x2,x3,x4,x5,h4,h5,h6,h7,h9⟩:=h.open
 rw[hk]at x0;have HO:=zh (fun w=>order_any v.flt 0 h4 (by unfold F64;omega) w);have hz:=ord_zero h4;obtain⟨pp,pc,rfl⟩:=h6.lenOf;have HB:=bareV.eq_def v false false false false;clear h9 h5 h6 h7 h hg h4 hk;have hnm:v.names.isEmpty=decide (v.names.length=0):=by cases v.names<;>simp
 have hit:v.items.isEmpty=decide (v.items.length=0):=by cases v.items<;>simp
 have hst:v.str.isEmpty=(⟨v.str.toArray⟩:ByteArray).toList.isEmpty:=by rw[ByteArray.toList_eq]
 rw[hnm,hit,hst,←hz]at HB;generalize v.names.length=N at *;generalize v.items.length=M at *;generalize (⟨v.str.toArray⟩:ByteArray)=S at *;generalize v.num=K at *;generalize ordB v.flt 0=Z at *;clear hnm hit hst hz;by_cases c1:K=0
 ·have t1:(K==0)=true:=by rw[c1];rfl
  rw[show decide (K=0)=true from decide_eq_true c1]at HB;clear c1;by_cases c2:Z=0
  ·have t2:(Z==0)=true:=by rw[c2];rfl
   rw[t2]at HB;clear c2;by_cases c3:S.toList=[]
   ·have t3:S.toList.isEmpty=true:=by rw[c3];rfl
    rw[t3]at HB;by_cases c4:N=0
    ·have t4:((N:Int)==0)=true:=by rw[c4];rfl
     rw[show decide (N=0)=true from decide_eq_true c4]at HB;by_cases c5:M=0
     ·have t5:((M:Int)==0)=true:=by rw[c5];rfl
      rw[show decide (M=0)=true from decide_eq_true c5]at HB;have HB:=zh HB;clear c4 c5;go_in;go_wp2_with (go_at_call 79;refine(HO.out _).mono ?_;rintro e w' ⟨rfl,rfl⟩)
      go_ret;exact⟨ret_val (by rw[HB.out];rfl),rfl⟩
     ·have t5:((M:Int)==0)=false:=by rw[beq_eq_false_iff_ne];omega
      rw[show decide (M=0)=false from decide_eq_false c5]at HB;have HB:=zh HB;clear c4;go_in;go_wp2_with (go_at_call 79;refine(HO.out _).mono ?_;rintro e w' ⟨rfl,rfl⟩)
      go_ret;exact⟨ret_val (by rw[HB.out];rfl),rfl⟩
    ·have t4:((N:Int)==0)=false:=by rw[beq_eq_false_iff_ne];omega
     rw[show decide (N=0)=false from decide_eq_false c4]at HB;have HB:=zh HB;go_in;go_wp2_with (go_at_call 79;refine(HO.out _).mono ?_;rintro e w' ⟨rfl,rfl⟩)
     go_ret;exact⟨ret_val (by rw[HB.out];rfl),rfl⟩
   ·have t3:S.toList.isEmpty=false:=by cases hh:S.toList with|nil=>exact absurd hh c3|cons a b=>rfl
    rw[t3]at HB;have HB:=zh HB;go_in;go_wp2_with (go_at_call 79;refine(HO.out _).mono ?_;rintro e w' ⟨rfl,rfl⟩)
    go_ret;exact⟨ret_val (by rw[HB.out];rfl),rfl⟩
  ·have t2:(Z==0)=false:=beq_eq_false_iff_ne.2 c2;rw[t2]at HB;clear c2;have HB:=zh HB;go_in;go_wp2_with (go_at_call 79;refine(HO.out _).mono ?_;rintro e w' ⟨rfl,rfl⟩)
   go_ret;exact⟨ret_val (by rw[HB.out];rfl),rfl⟩
 ·have t1:(K==0)=false:=beq_eq_false_iff_ne.2 c1;rw[show decide (K=0)=false from decide_eq_false c1]at HB;clear c1;have HB:=zh HB;go_in;go_wp2_with (go_at_call 79;refine(HO.out _).mono ?_;rintro e w' ⟨rfl,rfl⟩)
  go_ret;exact⟨ret_val (by rw[HB.out];rfl),rfl⟩
end
section
open Go.RowKit
theorem put6 {w:World} {b:Nat} {T:TypeId} {a0 a1 a2 a3 a4 a5:Value} (h:w.heap[b]?=some (.cells #[a0,a1,a2,a3,a4,a5] T (0,0))) (v0 v1 v2 v3 v4 v5:Value) :
  (((((((w).setCell ⟨b,0,none⟩ v0).setCell ⟨b,1,none⟩ v1).setCell ⟨b,2,none⟩ v2).setCell ⟨b,3,none⟩ v3).setCell ⟨b,4,none⟩ v4).setCell ⟨b,5,none⟩ v5).heap[b]?=some (.cells #[v0,v1,v2,v3,v4,v5] T (0,0))∧Fr [b] w (((((((w).setCell ⟨b,0,none⟩ v0).setCell ⟨b,1,none⟩ v1).setCell ⟨b,2,none⟩ v2).setCell ⟨b,3,none⟩ v3).setCell ⟨b,4,none⟩ v4).setCell ⟨b,5,none⟩ v5):=by
 have h1:((w).setCell ⟨b,0,none⟩ v0).heap[b]?=some (.cells #[v0,a1,a2,a3,a4,a5] T (0,0)):=heap_setN h 0 v0;have f1:Fr [b] w ((w).setCell ⟨b,0,none⟩ v0):=(Fr.refl [b] w).setCell ⟨b,0,none⟩ (List.mem_singleton.2 rfl) v0;have h2:(((w).setCell ⟨b,0,none⟩ v0).setCell ⟨b,1,none⟩ v1).heap[b]?=some (.cells #[v0,v1,a2,a3,a4,a5] T (0,0)):=heap_setN h1 1 v1;have f2:Fr [b] w (((w).setCell ⟨b,0,none⟩ v0).setCell ⟨b,1,none⟩ v1):=f1.setCell ⟨b,1,none⟩ (List.mem_singleton.2 rfl) v1;have h3:((((w).setCell ⟨b,0,none⟩ v0).setCell ⟨b,1,none⟩ v1).setCell ⟨b,2,none⟩ v2).heap[b]?=some (.cells #[v0,v1,v2,a3,a4,a5] T (0,0)):=heap_setN h2 2 v2;have f3:Fr [b] w ((((w).setCell ⟨b,0,none⟩ v0).setCell ⟨b,1,none⟩ v1).setCell ⟨b,2,none⟩ v2):=f2.setCell ⟨b,2,none⟩ (List.mem_singleton.2 rfl) v2;have h4:(((((w).setCell ⟨b,0,none⟩ v0).setCell ⟨b,1,none⟩ v1).setCell ⟨b,2,none⟩ v2).setCell ⟨b,3,none⟩ v3).heap[b]?=some (.cells #[v0,v1,v2,v3,a4,a5] T (0,0)):=heap_setN h3 3 v3;have f4:Fr [b] w (((((w).setCell ⟨b,0,none⟩ v0).setCell ⟨b,1,none⟩ v1).setCell ⟨b,2,none⟩ v2).setCell ⟨b,3,none⟩ v3):=f3.setCell ⟨b,3,none⟩ (List.mem_singleton.2 rfl) v3;have h5:((((((w).setCell ⟨b,0,none⟩ v0).setCell ⟨b,1,none⟩ v1).setCell ⟨b,2,none⟩ v2).setCell ⟨b,3,none⟩ v3).setCell ⟨b,4,none⟩ v4).heap[b]?=some (.cells #[v0,v1,v2,v3,v4,a5] T (0,0)):=heap_setN h4 4 v4;have f5:Fr [b] w ((((((w).setCell ⟨b,0,none⟩ v0).setCell ⟨b,1,none⟩ v1).setCell ⟨b,2,none⟩ v2).setCell ⟨b,3,none⟩ v3).setCell ⟨b,4,none⟩ v4):=f4.setCell ⟨b,4,none⟩ (List.mem_singleton.2 rfl) v4;have h6:(((((((w).setCell ⟨b,0,none⟩ v0).setCell ⟨b,1,none⟩ v1).setCell ⟨b,2,none⟩ v2).setCell ⟨b,3,none⟩ v3).setCell ⟨b,4,none⟩ v4).setCell ⟨b,5,none⟩ v5).heap[b]?=some (.cells #[v0,v1,v2,v3,v4,v5] T (0,0)):=heap_setN h5 5 v5;have f6:Fr [b] w (((((((w).setCell ⟨b,0,none⟩ v0).setCell ⟨b,1,none⟩ v1).setCell ⟨b,2,none⟩ v2).setCell ⟨b,3,none⟩ v3).setCell ⟨b,4,none⟩ v4).setCell ⟨b,5,none⟩ v5):=f5.setCell ⟨b,5,none⟩ (List.mem_singleton.2 rfl) v5;exact⟨h6,f6⟩
theorem cellsO6 {w:World} {b:Nat} {T:TypeId} {fz:Nat × Nat} {a0 a1 a2 a3 a4 a5:Value} (h:w.heap[b]?=some (.cells #[a0,a1,a2,a3,a4,a5] T fz)) :
  w.cell? ⟨b,0,none⟩=some a0∧w.cell? ⟨b,1,none⟩=some a1∧w.cell? ⟨b,2,none⟩=some a2∧w.cell? ⟨b,3,none⟩=some a3∧w.cell? ⟨b,4,none⟩=some a4∧w.cell? ⟨b,5,none⟩=some a5 :=
 ⟨by rw[zc h];rfl,by rw[zc h];rfl,by rw[zc h];rfl,by rw[zc h];rfl,by rw[zc h];rfl,by rw[zc h];rfl⟩
theorem free6 {w:World} {b:Nat} {T:TypeId} {cs:Array Value} (h:w.heap[b]?=some (.cells cs T (0,0))) :
  w.frozen? ⟨b,0,none⟩=false∧w.frozen? ⟨b,1,none⟩=false∧w.frozen? ⟨b,2,none⟩=false∧w.frozen? ⟨b,3,none⟩=false∧w.frozen? ⟨b,4,none⟩=false∧w.frozen? ⟨b,5,none⟩=false :=
 ⟨Lib.frozen_of_heap h 0,Lib.frozen_of_heap h 1,Lib.frozen_of_heap h 2,Lib.frozen_of_heap h 3,Lib.frozen_of_heap h 4,Lib.frozen_of_heap h 5⟩
theorem put10 {w:World} {b:Nat} {T:TypeId} {a0 a1 a2 a3 a4 a5 a6 a7 a8 a9:Value} (h:w.heap[b]?=some (.cells #[a0,a1,a2,a3,a4,a5,a6,a7,a8,a9] T (0,0))) (v0 v1 v2 v3 v4 v5 v6 v7 v8 v9:Value) :
  (((((((((((w).setCell ⟨b,0,none⟩ v0).setCell ⟨b,1,none⟩ v1).setCell ⟨b,2,none⟩ v2).setCell ⟨b,3,none⟩ v3).setCell ⟨b,4,none⟩ v4).setCell ⟨b,5,none⟩ v5).setCell ⟨b,6,none⟩ v6).setCell ⟨b,7,none⟩ v7).setCell ⟨b,8,none⟩ v8).setCell ⟨b,9,none⟩ v9).heap[b]?=some (.cells #[v0,v1,v2,v3,v4,v5,v6,v7,v8,v9] T (0,0))∧Fr [b] w (((((((((((w).setCell ⟨b,0,none⟩ v0).setCell ⟨b,1,none⟩ v1).setCell ⟨b,2,none⟩ v2).setCell ⟨b,3,none⟩ v3).setCell ⟨b,4,none⟩ v4).setCell ⟨b,5,none⟩ v5).setCell ⟨b,6,none⟩ v6).setCell ⟨b,7,none⟩ v7).setCell ⟨b,8,none⟩ v8).setCell ⟨b,9,none⟩ v9):=by
 have h1:((w).setCell ⟨b,0,none⟩ v0).heap[b]?=some (.cells #[v0,a1,a2,a3,a4,a5,a6,a7,a8,a9] T (0,0)):=heap_setN h 0 v0;have f1:Fr [b] w ((w).setCell ⟨b,0,none⟩ v0):=(Fr.refl [b] w).setCell ⟨b,0,none⟩ (List.mem_singleton.2 rfl) v0;have h2:(((w).setCell ⟨b,0,none⟩ v0).setCell ⟨b,1,none⟩ v1).heap[b]?=some (.cells #[v0,v1,a2,a3,a4,a5,a6,a7,a8,a9] T (0,0)):=heap_setN h1 1 v1;have f2:Fr [b] w (((w).setCell ⟨b,0,none⟩ v0).setCell ⟨b,1,none⟩ v1):=f1.setCell ⟨b,1,none⟩ (List.mem_singleton.2 rfl) v1;have h3:((((w).setCell ⟨b,0,none⟩ v0).setCell ⟨b,1,none⟩ v1).setCell ⟨b,2,none⟩ v2).heap[b]?=some (.cells #[v0,v1,v2,a3,a4,a5,a6,a7,a8,a9] T (0,0)):=heap_setN h2 2 v2;have f3:Fr [b] w ((((w).setCell ⟨b,0,none⟩ v0).setCell ⟨b,1,none⟩ v1).setCell ⟨b,2,none⟩ v2):=f2.setCell ⟨b,2,none⟩ (List.mem_singleton.2 rfl) v2;have h4:(((((w).setCell ⟨b,0,none⟩ v0).setCell ⟨b,1,none⟩ v1).setCell ⟨b,2,none⟩ v2).setCell ⟨b,3,none⟩ v3).heap[b]?=some (.cells #[v0,v1,v2,v3,a4,a5,a6,a7,a8,a9] T (0,0)):=heap_setN h3 3 v3;have f4:Fr [b] w (((((w).setCell ⟨b,0,none⟩ v0).setCell ⟨b,1,none⟩ v1).setCell ⟨b,2,none⟩ v2).setCell ⟨b,3,none⟩ v3):=f3.setCell ⟨b,3,none⟩ (List.mem_singleton.2 rfl) v3;have h5:((((((w).setCell ⟨b,0,none⟩ v0).setCell ⟨b,1,none⟩ v1).setCell ⟨b,2,none⟩ v2).setCell ⟨b,3,none⟩ v3).setCell ⟨b,4,none⟩ v4).heap[b]?=some (.cells #[v0,v1,v2,v3,v4,a5,a6,a7,a8,a9] T (0,0)):=heap_setN h4 4 v4;have f5:Fr [b] w ((((((w).setCell ⟨b,0,none⟩ v0).setCell ⟨b,1,none⟩ v1).setCell ⟨b,2,none⟩ v2).setCell ⟨b,3,none⟩ v3).setCell ⟨b,4,none⟩ v4):=f4.setCell ⟨b,4,none⟩ (List.mem_singleton.2 rfl) v4;have h6:(((((((w).setCell ⟨b,0,none⟩ v0).setCell ⟨b,1,none⟩ v1).setCell ⟨b,2,none⟩ v2).setCell ⟨b,3,none⟩ v3).setCell ⟨b,4,none⟩ v4).setCell ⟨b,5,none⟩ v5).heap[b]?=some (.cells #[v0,v1,v2,v3,v4,v5,a6,a7,a8,a9] T (0,0)):=heap_setN h5 5 v5;have f6:Fr [b] w (((((((w).setCell ⟨b,0,none⟩ v0).setCell ⟨b,1,none⟩ v1).setCell ⟨b,2,none⟩ v2).setCell ⟨b,3,none⟩ v3).setCell ⟨b,4,none⟩ v4).setCell ⟨b,5,none⟩ v5):=f5.setCell ⟨b,5,none⟩ (List.mem_singleton.2 rfl) v5;have h7:((((((((w).setCell ⟨b,0,none⟩ v0).setCell ⟨b,1,none⟩ v1).setCell ⟨b,2,none⟩ v2).setCell ⟨b,3,none⟩ v3).setCell ⟨b,4,none⟩ v4).setCell ⟨b,5,none⟩ v5).setCell ⟨b,6,none⟩ v6).heap[b]?=some (.cells #[v0,v1,v2,v3,v4,v5,v6,a7,a8,a9] T (0,0)):=heap_setN h6 6 v6;have f7:Fr [b] w ((((((((w).setCell ⟨b,0,none⟩ v0).setCell ⟨b,1,none⟩ v1).setCell ⟨b,2,none⟩ v2).setCell ⟨b,3,none⟩ v3).setCell ⟨b,4,none⟩ v4).setCell ⟨b,5,none⟩ v5).setCell ⟨b,6,none⟩ v6):=f6.setCell ⟨b,6,none⟩ (List.mem_singleton.2 rfl) v6;have h8:(((((((((w).setCell ⟨b,0,none⟩ v0).setCell ⟨b,1,none⟩ v1).setCell ⟨b,2,none⟩ v2).setCell ⟨b,3,none⟩ v3).setCell ⟨b,4,none⟩ v4).setCell ⟨b,5,none⟩ v5).setCell ⟨b,6,none⟩ v6).setCell ⟨b,7,none⟩ v7).heap[b]?=some (.cells #[v0,v1,v2,v3,v4,v5,v6,v7,a8,a9] T (0,0)):=heap_setN h7 7 v7;have f8:Fr [b] w (((((((((w).setCell ⟨b,0,none⟩ v0).setCell ⟨b,1,none⟩ v1).setCell ⟨b,2,none⟩ v2).setCell ⟨b,3,none⟩ v3).setCell ⟨b,4,none⟩ v4).setCell ⟨b,5,none⟩ v5).setCell ⟨b,6,none⟩ v6).setCell ⟨b,7,none⟩ v7):=f7.setCell ⟨b,7,none⟩ (List.mem_singleton.2 rfl) v7;have h9:((((((((((w).setCell ⟨b,0,none⟩ v0).setCell ⟨b,1,none⟩ v1).setCell ⟨b,2,none⟩ v2).setCell ⟨b,3,none⟩ v3).setCell ⟨b,4,none⟩ v4).setCell ⟨b,5,none⟩ v5).setCell ⟨b,6,none⟩ v6).setCell ⟨b,7,none⟩ v7).setCell ⟨b,8,none⟩ v8).heap[b]?=some (.cells #[v0,v1,v2,v3,v4,v5,v6,v7,v8,a9] T (0,0)):=heap_setN h8 8 v8;have f9:Fr [b] w ((((((((((w).setCell ⟨b,0,none⟩ v0).setCell ⟨b,1,none⟩ v1).setCell ⟨b,2,none⟩ v2).setCell ⟨b,3,none⟩ v3).setCell ⟨b,4,none⟩ v4).setCell ⟨b,5,none⟩ v5).setCell ⟨b,6,none⟩ v6).setCell ⟨b,7,none⟩ v7).setCell ⟨b,8,none⟩ v8):=f8.setCell ⟨b,8,none⟩ (List.mem_singleton.2 rfl) v8;have h10:(((((((((((w).setCell ⟨b,0,none⟩ v0).setCell ⟨b,1,none⟩ v1).setCell ⟨b,2,none⟩ v2).setCell ⟨b,3,none⟩ v3).setCell ⟨b,4,none⟩ v4).setCell ⟨b,5,none⟩ v5).setCell ⟨b,6,none⟩ v6).setCell ⟨b,7,none⟩ v7).setCell ⟨b,8,none⟩ v8).setCell ⟨b,9,none⟩ v9).heap[b]?=some (.cells #[v0,v1,v2,v3,v4,v5,v6,v7,v8,v9] T (0,0)):=heap_setN h9 9 v9;have f10:Fr [b] w (((((((((((w).setCell ⟨b,0,none⟩ v0).setCell ⟨b,1,none⟩ v1).setCell ⟨b,2,none⟩ v2).setCell ⟨b,3,none⟩ v3).setCell ⟨b,4,none⟩ v4).setCell ⟨b,5,none⟩ v5).setCell ⟨b,6,none⟩ v6).setCell ⟨b,7,none⟩ v7).setCell ⟨b,8,none⟩ v8).setCell ⟨b,9,none⟩ v9):=f9.setCell ⟨b,9,none⟩ (List.mem_singleton.2 rfl) v9;exact⟨h10,f10⟩
theorem cellsO10 {w:World} {b:Nat} {T:TypeId} {fz:Nat × Nat} {a0 a1 a2 a3 a4 a5 a6 a7 a8 a9:Value} (h:w.heap[b]?=some (.cells #[a0,a1,a2,a3,a4,a5,a6,a7,a8,a9] T fz)) :
  w.cell? ⟨b,0,none⟩=some a0∧w.cell? ⟨b,1,none⟩=some a1∧w.cell? ⟨b,2,none⟩=some a2∧w.cell? ⟨b,3,none⟩=some a3∧w.cell? ⟨b,4,none⟩=some a4∧w.cell? ⟨b,5,none⟩=some a5∧w.cell? ⟨b,6,none⟩=some a6∧w.cell? ⟨b,7,none⟩=some a7∧w.cell? ⟨b,8,none⟩=some a8∧w.cell? ⟨b,9,none⟩=some a9 :=
 ⟨by rw[zc h];rfl,by rw[zc h];rfl,by rw[zc h];rfl,by rw[zc h];rfl,by rw[zc h];rfl,by rw[zc h];rfl,by rw[zc h];rfl,by rw[zc h];rfl,by rw[zc h];rfl,by rw[zc h];rfl⟩
theorem free10 {w:World} {b:Nat} {T:TypeId} {cs:Array Value} (h:w.heap[b]?=some (.cells cs T (0,0))) :
  w.frozen? ⟨b,0,none⟩=false∧w.frozen? ⟨b,1,none⟩=false∧w.frozen? ⟨b,2,none⟩=false∧w.frozen? ⟨b,3,none⟩=false∧w.frozen? ⟨b,4,none⟩=false∧w.frozen? ⟨b,5,none⟩=false∧w.frozen? ⟨b,6,none⟩=false∧w.frozen? ⟨b,7,none⟩=false∧w.frozen? ⟨b,8,none⟩=false∧w.frozen? ⟨b,9,none⟩=false :=
 ⟨Lib.frozen_of_heap h 0,Lib.frozen_of_heap h 1,Lib.frozen_of_heap h 2,Lib.frozen_of_heap h 3,Lib.frozen_of_heap h 4,Lib.frozen_of_heap h 5,Lib.frozen_of_heap h 6,Lib.frozen_of_heap h 7,Lib.frozen_of_heap h 8,Lib.frozen_of_heap h 9⟩
theorem cells3 {w:World} {b:Nat} {T:TypeId} {fz:Nat × Nat} {a0 a1 a2:Value} (h:w.heap[b]?=some (.cells #[a0,a1,a2] T fz)) :
  w.cell? ⟨b,0,none⟩=some a0∧w.cell? ⟨b,1,none⟩=some a1∧w.cell? ⟨b,2,none⟩=some a2 :=
 ⟨by rw[zc h];rfl,by rw[zc h];rfl,by rw[zc h];rfl⟩
theorem free3 {w:World} {b:Nat} {T:TypeId} {cs:Array Value} (h:w.heap[b]?=some (.cells cs T (0,0))) :
  w.frozen? ⟨b,0,none⟩=false∧w.frozen? ⟨b,1,none⟩=false∧w.frozen? ⟨b,2,none⟩=false :=
 ⟨Lib.frozen_of_heap h 0,Lib.frozen_of_heap h 1,Lib.frozen_of_heap h 2⟩
end
section
open Go.RowKit
theorem Strs.row {w:World} {l:List (List UInt8)} {v:Value} (h:Strs w l v):∃ p c,v=.slice p l.length c∧l.length≤140737488355328∧∀ i,i<l.length→∃ g off,p=some ⟨g,off,none⟩∧w.cell? ⟨g,off+i,none⟩=some (.string ⟨(l.getD i []).toArray⟩):=by
 obtain⟨hl,_,h|⟨g,off,cap,h3,h4,h5⟩⟩:=h
 ·obtain⟨rfl,p,c,rfl⟩:=h;exact⟨p,c,rfl,hl,fun i hi=>by simp at hi⟩
 ·exact⟨_,_,h3,hl,fun i hi=>⟨g,off,rfl,h5 i hi⟩⟩
end
section
open Go.RowKit
theorem nan_string (s:ByteArray) (w:World):Calls Tryz.prog 179 #[.string s] w fun e w'=>e=.returned (.bool false)∧w=w':=by
 have t0:(s.toList != s.toList)=false:=by simp
 go_in;go_wp2_with fail
 go_ret;exact⟨rfl,rfl⟩
end
section
open Go.RowKit
theorem ValAt.boxes {w:World} {d:Nat} {v:VT} {cs:Array Value} (h:ValAt w (d+1) v cs) {p:Option Addr} {cap:Nat} {z0 z1 z2 z3 z4:Value} (hc:cs=#[z0,z1,z2,z3,z4,.slice p v.items.length cap]) :
  ∀ i,i<v.items.length→∃ g off,p=some ⟨g,off,none⟩∧g<w.heap.size∧∃ ds,ValAt w d (v.items.getD i noVT) ds∧∀ j,j<6→w.cell? ⟨g,off+i*6+j,none⟩=ds[j]?:=by
 intro i hi;obtain⟨pn,pi,h1,_,_,_,_,_,_,h8⟩:=h;have h2:=hc.symm.trans h1;simp only[Array.mk.injEq,List.cons.injEq]at h2;have h3:=h2.2.2.2.2.2.1;rcases h8 with ⟨h8,_⟩|⟨g,off,c,h8,h9,h10⟩
 ·rw[h8]at hi;simp at hi
 ·rw[h8]at h3;injection h3 with h3 _ _
  exact⟨g,off,h3,h9,h10 i hi⟩
theorem ValAt.strs {w:World} {d:Nat} {v:VT} {cs:Array Value} (h:ValAt w (d+1) v cs) {z0 z1 z2 z3 z4 z5:Value} (hc:cs=#[z0,z1,z2,z3,z4,z5]):Strs w v.names z4∧F64 v.flt∧v.items.length≤140737488355328:=by
 obtain⟨pn,pi,h1,_,_,hf,_,h6,h7,_⟩:=h;have h2:=hc.symm.trans h1;simp only[Array.mk.injEq,List.cons.injEq]at h2;rw[h2.2.2.2.2.1];exact⟨h6,hf,h7⟩
end
end Go.Proofs.YtaaaaggmhjhkkaaGreatDoor
