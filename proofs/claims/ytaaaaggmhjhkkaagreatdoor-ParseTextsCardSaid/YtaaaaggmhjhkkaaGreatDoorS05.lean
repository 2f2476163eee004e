/-
  Fo, T6, Fd, Fq, Kp, K8, V1, V2, Q2, V3, V4, V5, V6, V7, V8, V9, C1 in one text.
-/
import Derived.Deep.Cut
import Derived.Lib.IndexMore
import Derived.Lib.ItoaNum
import Derived.Lib.MinMax
import Derived.Lib.ParseIntB
import Derived.Test.YtaaaaggmhjhkkaaGreatDoorS00
import Derived.Test.YtaaaaggmhjhkkaaGreatDoorCl
set_option maxRecDepth 100000
set_option maxHeartbeats 4000000
namespace Go.Proofs.YtaaaaggmhjhkkaaGreatDoor
section
open Go.RowKit
/-- all blocks that were there, but for those of l, are as they were -/
structure Fr (l:List Nat) (w w':World):Prop where
 os:w'.os=w.os
 tape:w'.tape=w.tape
 output:w'.output=w.output
 size:w.heap.size≤w'.heap.size
 block:∀ k,k<w.heap.size→k ∉ l→w'.heap[k]?=w.heap[k]?
theorem Fr.refl (l:List Nat) (w:World):Fr l w w:=⟨rfl,rfl,rfl,Nat.le_refl _,fun _ _ _=>rfl⟩
theorem Fr.trans {l:List Nat} {a b c:World} (h:Fr l a b) (k:Fr l b c):Fr l a c :=
 ⟨k.os.trans h.os,k.tape.trans h.tape,k.output.trans h.output,Nat.le_trans h.size k.size,fun i hi hn=>(k.block i (Nat.lt_of_lt_of_le hi h.size) hn).trans (h.block i hi hn)⟩
theorem Fr.mono {l m:List Nat} {w w':World} (h:Fr l w w') (hlm:∀ x ∈ l,x ∈ m):Fr m w w':=⟨h.os,h.tape,h.output,h.size,fun k hk hn=>h.block k hk (fun hx=>hn (hlm k hx))⟩
theorem Fr.of_below {l:List Nat} {w w':World} (h:Below w.heap.size w w'):Fr l w w':=⟨h.os,h.tape,h.output,h.size,fun k hk _=>h.block k hk⟩
theorem Fr.below {l:List Nat} {B:Nat} {w w':World} (h:Fr l w w') (hB:B≤w.heap.size) (hl:∀ x ∈ l,B≤x):Below B w w' :=
 ⟨h.os,h.tape,h.output,h.size,fun k hk=>h.block k (Nat.lt_of_lt_of_le hk hB) (fun hx=>by have:=hl k hx;omega)⟩
theorem Fr.drewN {l:List Nat} {a w:World} (h:Fr l a w) (n:Nat):Fr l a (w.drewN n):=⟨h.os,h.tape,h.output,h.size,h.block⟩
theorem Fr.setCell {l:List Nat} {a w:World} (h:Fr l a w) (p:Addr) (hp:p.block ∈ l) (v:Value):Fr l a (w.setCell p v):=by
 exact h.trans ⟨rfl,rfl,rfl,by simp[World.setCell],fun k _ hn=>Below.heap_setCell _ _ _ _ (fun e=>hn (e ▸ hp))⟩
theorem heap_setN {w:World} {b:Nat} {cs:Array Value} {t:TypeId} (h:w.heap[b]?=some (.cells cs t (0,0))) (i:Nat) (x:Value):(w.setCell ⟨b,i,none⟩ x).heap[b]?=some (.cells (cs.setIfInBounds i x) t (0,0)):=by
 have hlt:=lt_of_block h;have h':w.heap[b]=.cells cs t (0,0):=by simpa [Array.getElem?_eq_getElem hlt] using h
 show(w.heap.modify b _)[b]?=_;rw[Array.getElem?_eq_getElem (by simpa using hlt),Array.getElem_modify_self,h'];rfl
theorem Fr.drew {l:List Nat} {a w:World} (h:Fr l a w):Fr l a w.drew:=⟨h.os,h.tape,h.output,h.size,h.block⟩
theorem Fr.lower {l:List Nat} {a w w':World} (h:Fr l a w) (hb:Below a.heap.size w w'):Fr l a w':=⟨hb.os.trans h.os,hb.tape.trans h.tape,hb.output.trans h.output,Nat.le_trans h.size hb.size,fun k hk hn=>(hb.block k hk).trans (h.block k hk hn)⟩
theorem Fr.alloc {l:List Nat} {a w:World} (h:Fr l a w) (o:Obj):Fr l a (w.alloc o) :=
 h.trans ⟨rfl,rfl,rfl,by simp,fun k hk _=>Lib.alloc_old w o k hk⟩
theorem Fr.at {l:List Nat} {w w':World} {k:Nat} {x:Obj} (h:Fr l w w') (hk:w.heap[k]?=some x) (hn:k ∉ l):w'.heap[k]?=some x:=(h.block k (Array.getElem?_eq_some_iff.1 hk).1 hn).trans hk
theorem Fr.cell {l:List Nat} {w w':World} {k i:Nat} (h:Fr l w w') (hk:k<w.heap.size) (hn:k ∉ l):w'.cell? ⟨k,i,none⟩=w.cell? ⟨k,i,none⟩:=by
 have:=h.block k hk hn;unfold World.cell?;simp only[this]
theorem Fr.grow {l:List Nat} {a w w':World} (h:Fr l a w) (hs:a.heap.size≤w.heap.size) (k:Below w.heap.size w w'):Fr l a w':=h.lower (k.mono hs)
theorem undrew {w w':World} (h:Below w.drew.heap.size w.drew w'):Below w.heap.size w w':=⟨h.os,h.tape,h.output,h.size,h.block⟩
end
section
open Go
theorem run_append_ownG {P:Program} (w:World) (base:Nat) (t ty e:TypeId) (i:TypeInfo) (z:Value) (size bytes:Nat) (ht:P.underlying t=some (.slice e)) (hi:P.info? e=some i) (hz:i.zero=some z)
  (hsize:i.size=size) (hby:i.bytes=bytes) (hzs:z.cells.size=size) (hsz:0<size)
  (v:Value) (n:Nat) (xs:List Value) (hown:w.ownsRowF base e size v n xs)
  (a:Addr) (m c:Nat) (news:List Value) (hl:news.length=m*size) (hnews:∀ j u,news[j]?=some u→w.cell? (a.add j)=some u) (h1:∀ u ∈ news,u.oneCell'=true)
  (h63:n+m≤maxLen) (hbytes:(n+m)*bytes≤140737488355328) (hbase:base≤w.heap.size) :
  ∃ v' w',(Builtin.append_ #[t,t] ty #[v,.slice (some a) m c]).run P w=.ok v' w'∧w'.ownsRowF base e size v' (n+m) (xs++news)∧w.grownBy w' v.ownBlock ∧
   (∀ g',v'.ownBlock=some g'→v.ownBlock=some g'∨w.heap.size≤g'):=by
 rcases hown.2 with ⟨rfl,rfl⟩|⟨g,cap,cur,fz,rfl,hbg,hg,hfz,hnc,hcm,hcs,htake⟩
 ·obtain⟨v',w',r1,r2,r3,r4⟩:=run_append_own (P:=P) w w.heap.size t ty e i z size bytes ht hi hz hsize hby hzs hsz (.slice none 0 0) 0 xs ⟨hown.1,.inl ⟨rfl,rfl⟩⟩ a m c news hl hnews h1 h63 hbytes (Nat.le_refl _);refine⟨v',w',r1,?_,r3,fun g' hg'=>.inr (((World.ownsRowF_of r2).lt g' hg').1)⟩;have r5:=World.ownsRowF_of r2;refine⟨r5.1,?_⟩;rcases r5.2 with h|⟨g,cap,cur,fz,e1,e2,rest⟩
  ·exact .inl h
  ·exact .inr ⟨g,cap,cur,fz,e1,Nat.le_trans hbase e2,rest⟩
 ·subst hsize;subst hby
  have hsmall:n+m≤9223372036854775807:=by simp only[maxLen]at h63;omega
  have hlen:(xs++news).length=(n+m)*i.size:=by rw[List.length_append,hown.1,hl,Nat.add_mul]
  by_cases hroom:n+m≤cap
  ·have hfit:n*i.size+news.length≤cur.size:=by rw[hl,hcs,←Nat.add_mul];exact Nat.mul_le_mul_right _ hroom
   have hr:=run_append_roomF (P:=P) w t ty e i ht hi g n cap cur fz hg hfz a m c news hl hnews h1 hroom hfit;refine⟨_,_,hr,⟨hlen,.inr ⟨g,cap,_,fz,rfl,hbg,setRow_heap w g cur _ e _ hg,Nat.le_trans hfz (Nat.mul_le_mul_right _ (Nat.le_add_right n m)),hroom,hcm,?_,?_⟩⟩,⟨rfl,rfl,rfl,by simp,fun k _ hk=>setRow_other w g k _ (fun e=>hk (by simp[Value.ownBlock,e]))⟩,fun g' h=>.inl h⟩
   ·simp only[List.size_toArray,List.length_append,List.length_take,List.length_drop,Array.length_toList];omega
   ·rw[htake,←hlen];exact List.take_left
  ·have holds:∀ j u,xs[j]?=some u→w.cell? ((⟨g,0,none⟩:Addr).add j)=some u:=hown.cells (g:=g) rfl;have hr:=run_append_grow (P:=P) w t ty e i z ht hi hz ⟨g,0,none⟩ n cap xs hown.1 holds a m c news hl hnews (by omega) (by omega) (growslice_fits (by omega) hbytes);have hge:=grownCap_ge w (n+m) cap e;have hcm2:grownCap w (n+m) cap e≤maxLen:=grownCap_le_maxLen w (n+m) cap e h63;refine⟨_,_,hr,⟨hlen,.inr ⟨w.heap.size,_,_,(0,0),rfl,hbase,heap_alloc_new w.drew _,Nat.zero_le _,hge,hcm2,?_,?_⟩⟩,⟨rfl,rfl,rfl,by simp,fun k hk _=>Lib.alloc_old w.drew _ k hk⟩,fun g' h=>.inr (by cases h;exact Nat.le_refl _)⟩
   ·simp only[Array.size_append,List.size_toArray,size_zeroCells,hzs,hown.1,hl,←Nat.add_mul];congr 1
    omega
   ·simp only[Array.toList_append,List.append_assoc];rw[←List.append_assoc,←hlen];exact List.take_left
theorem wpList_append_ownG {P:Program} (w:World) {ops:Array Oper} {rest:List Oper} {o:Oper} {a:Act} {Q:Exit→Act→World→Prop} (hgd:o.guard=none) (s x:Operand) (t:TypeId)
  (ho:o.op=.call { callee:=.builtin .append,args:=#[s,x],argTypes:=#[t,t] })
  (base:Nat) (e:TypeId) (i:TypeInfo) (z:Value) (size bytes:Nat) (ht:P.underlying t=some (.slice e)) (hi:P.info? e=some i) (hz:i.zero=some z)
  (hsize:i.size=size) (hby:i.bytes=bytes) (hzs:z.cells.size=size) (hsz:0<size)
  (v:Value) (n:Nat) (xs:List Value) (hs:a.eval s=v) (hown:w.ownsRowF base e size v n xs)
  (ad:Addr) (m c:Nat) (news:List Value) (hx:a.eval x=.slice (some ad) m c) (hl:news.length=m*size) (hnews:∀ j u,news[j]?=some u→w.cell? (ad.add j)=some u) (h1:∀ u ∈ news,u.oneCell'=true)
  (h63:n+m≤maxLen) (hbytes:(n+m)*bytes≤140737488355328) (hbase:base≤w.heap.size)
  (h:∀ v' w',w'.ownsRowF base e size v' (n+m) (xs++news)→w.grownBy w' v.ownBlock→(∀ g',v'.ownBlock=some g'→v.ownBlock=some g'∨w.heap.size≤g')→wpList P ops Q rest (a.put o.dst v') w'):wpList P ops Q (o::rest) a w:=by
 refine wpList_plain hgd fun K hK=>?_
 obtain⟨v',w',hr,h2,h3,h4⟩:=run_append_ownG (P:=P) w base t o.type e i z size bytes ht hi hz hsize hby hzs hsz v n xs hown ad m c news hl hnews h1 h63 hbytes hbase;unfold Oper.wp execOp;simp only[ho,resolve,invoke,builtin,Sem.run_bind,Sem.run_pure,Result.andThen_ok,List.map_toArray,List.map_cons,List.map_nil,hs,hx,hr];exact hK _ _ (h v' w' h2 h3 h4)
open Go.RowKit
/-- a builder whose row of bytes is r -/
def BldR (T:TypeId) (B b:Nat) (r:Option Nat) (o:List UInt8) (w:World):Prop :=
 B≤w.heap.size∧∃ p v,(p=.pointer none∨p=.pointer (some ⟨b,0,none⟩))∧B≤b∧w.heap[b]?=some (.cells #[p,v] T (0,0))∧w.ownsRowF B 5 1 v (Lib.byteCells o).length (Lib.byteCells o)∧v.ownBlock=r∧r≠some b
theorem Bld.row {T:TypeId} {B b:Nat} {o:List UInt8} {w:World} (h:Bld T B b o w):∃ r,BldR T B b r o w:=by
 obtain⟨h0,h|h⟩:=h<;>obtain⟨h1,v,h2,h3,h4⟩:=h
 ·exact⟨_,h0,_,v,.inl rfl,h1,h2,h3,rfl,h4⟩
 ·exact⟨_,h0,_,v,.inr rfl,h1,h2,h3,rfl,h4⟩
theorem BldR.bld {T:TypeId} {B b:Nat} {r:Option Nat} {o:List UInt8} {w:World} (h:BldR T B b r o w):Bld T B b o w:=by
 obtain⟨h0,p,v,rfl|rfl,h1,h2,h3,h4,h5⟩:=h
 ·exact⟨h0,.inl ⟨h1,v,h2,h3,h4 ▸ h5⟩⟩
 ·exact⟨h0,.inr ⟨h1,v,h2,h3,h4 ▸ h5⟩⟩
theorem BldR.own {T:TypeId} {B b:Nat} {r:Option Nat} {o:List UInt8} {w:World} (h:BldR T B b r o w):∀ k,r=some k→k<w.heap.size:=by
 obtain⟨h0,p,v,_,h1,h2,h3,h4,h5⟩:=h;intro k hk;exact(h3.lt k (h4.trans hk)).2
theorem BldR.below {T:TypeId} {B b:Nat} {r:Option Nat} {o:List UInt8} {w w':World} (h:BldR T B b r o w) (hb:Below w.heap.size w w'):BldR T B b r o w':=by
 obtain⟨h0,p,v,hp,h1,h2,h3,h4,h5⟩:=h;exact⟨Nat.le_trans h0 hb.size,p,v,hp,h1,(hb.block _ (lt_of_block h2)).trans h2,h3.kept (row:=none) ⟨hb.os,hb.tape,hb.output,hb.size,fun k hk _=>hb.block k hk⟩ (Classical.em _),h4,h5⟩
section
variable {T:TypeId} (hT:BT T)
include hT
theorem bcheck_row (B b:Nat) (r:Option Nat) (o:List UInt8) (w:World) (h:BldR T B b r o w) :
  Calls Tryz.prog 76 #[.pointer (some ⟨b,0,none⟩)] w fun e w'=>e=.returned (.tuple #[])∧(∃ v,B≤b∧w'.heap[b]?=some (.cells #[.pointer (some ⟨b,0,none⟩),v] T (0,0))∧w'.ownsRowF B 5 1 v (Lib.byteCells o).length (Lib.byteCells o)∧v.ownBlock=r∧r≠some b)∧Fr [b] w w'∧w'.heap.size=w.heap.size∧Wrote B b w w':=by
 obtain⟨h0,p,v,hp,h1,h2,h3,h4,h5⟩:=h;rcases hp with rfl|rfl
 ·refine(bcheck_fresh hT b w (by rw[zc h2];rfl) (by simp[World.shape?,h2]) (Lib.frozen_of_heap h2 0)).mono ?_;rintro e w' ⟨rfl,rfl⟩;exact⟨rfl,⟨v,h1,heap_setN h2 0 _,h3.kept (row:=some b) ⟨rfl,rfl,rfl,by simp[World.setCell],fun k _ hk=>Below.heap_setCell _ _ _ _ (fun e=>hk (by simp[e]))⟩ (.inr (h4 ▸ h5)),h4,h5⟩,(Fr.refl [b] w).setCell ⟨b,0,none⟩ (by simp) _,by simp[World.setCell],(Below.refl B w).setCell (p:=⟨b,0,none⟩) h1 _,(Lib.OthersKept.refl _ _ w).setCell ⟨b,0,none⟩ rfl _⟩
 ·refine(bcheck_used hT b w (by rw[zc h2];rfl)).mono ?_;rintro e w' ⟨rfl,rfl⟩;exact⟨rfl,⟨v,h1,h2,h3,h4,h5⟩,Fr.refl _ _,rfl,Wrote.refl _ _ _⟩
theorem BldR.write {B b:Nat} {r:Option Nat} {o:List UInt8} {w:World} (h:BldR T B b r o w) (hlen:o.length≤100000000) (c:UInt8) :
  Calls Tryz.prog 48 #[.pointer (some ⟨b,0,none⟩),.int .u8 c.toNat] w fun e w'=>e=.returned .nilIface∧(∃ r',BldR T B b r' (o++[c]) w'∧(∀ k,r'=some k→r=some k∨w.heap.size≤k))∧Wrote B b w w'∧(∀ k,k<w.heap.size→k≠b→r≠some k→w'.heap[k]?=w.heap[k]?):=by
 obtain⟨i0,hi,hz0,hz1,hz2⟩:=Go.info_parts (show(Tryz.prog.info? 5).map (fun i=>(i.zero,i.size,i.bytes))=some (some (.int .u8 0),1,1) by kernel_rfl);have HC:=zh (bcheck_row hT B b r o w h);have HN:=zh hT.ne;have hBw:=h.1;have hl:(Lib.byteCells o).length=o.length:=Lib.byteCells_length o;go_in;go_wp2_with fail
 refine(HC.out).mono ?_;rintro e w1 ⟨rfl,⟨v,hB,hbk,hown,hvr,hne⟩,hf1,hs1,hw1⟩;have hvb:v.ownBlock≠some b:=hvr ▸ hne;have HS1:=zh hs1;have HVR:=zh hvr;have hl1:w.heap.size≤w1.heap.size:=by omega
 have hl2:w1.heap.size≤w.heap.size:=by omega
 have HL:=zh hl;clear hs1 hvr hl;obtain⟨c0,c1⟩:=cells2 hbk;go_wp2_with (at_builtin;refine wpList_append_ownG _ rfl _ _ 50 rfl B 5 i0 (.int .u8 0) 1 1 Tryz.underlying50 hi hz0 hz1 hz2 rfl (by decide) _ _ _ rfl (hown.alloc _) ⟨w1.heap.size,0,none⟩ 1 1 [.int .u8 c.toNat] rfl rfl ?c1 ?c2 ?c3 ?c4 ?c5 ?_)
 case c1 =>
  intro j u hj;match j,hj with
  | 0,hj=>simp at hj;subst hj;simp[Addr.add]
 case c2=>intro u hu;simp at hu;subst hu;rfl
 case c3=>have:=HL.out;unfold maxLen;omega
 case c4=>have:=HL.out;omega
 case c5=>simp;omega
 intro v' w2 hown' hgrow hnew;have hlt:b<w1.heap.size:=lt_of_block hbk;have hb2:w2.heap[b]?=some (.cells #[.pointer (some ⟨b,0,none⟩),v] T (0,0)):=by
  rw[hgrow.block b (by simp;omega) (fun e=>hvb e.symm),Lib.alloc_old w1 _ b hlt];exact hbk
 obtain⟨d0,d1⟩:=cells2 hb2;have f1:w2.frozen? ⟨b,1,none⟩=false:=Lib.frozen_of_heap hb2 1;obtain⟨g,cap,rfl⟩:∃ g cap,v'=.slice (some ⟨g,0,none⟩) ((Lib.byteCells o).length+1) cap:=by
  rcases hown'.2 with ⟨_,h0⟩|⟨g,cap,cur,fz,hv,_⟩
  ·omega
  ·exact⟨g,cap,hv⟩
 go_wp2
 go_ret;have hs1:=HS1.out;have hvr:=HVR.out;have hap:Lib.byteCells (o++[c])=Lib.byteCells o++[.int .u8 c.toNat]:=Lib.byteCells_append o [c];have hAt:=Lib.BuilderAtF.put (T:=T) (e:=5) hB hb2 (bs':=Lib.byteCells (o++[c])) (by rw[hap];simpa using hown') HN.out;have hsz2:w.heap.size≤w2.heap.size:=by have:=hgrow.size;simp at this;omega
 refine⟨rfl,⟨some g,?_,?_⟩,?_,?_⟩
 ·obtain⟨h1,v3,h2,h3,h4⟩:=hAt;have e3:v3=.slice (some ⟨g,0,none⟩) ((Lib.byteCells o).length+1) cap:=by
   have hx:(w2.setCell ⟨b,1,none⟩ (.slice (some ⟨g,0,none⟩) ((Lib.byteCells o).length+1) cap)).heap[b]?=some (.cells #[.pointer (some ⟨b,0,none⟩),.slice (some ⟨g,0,none⟩) ((Lib.byteCells o).length+1) cap] T (0,0)):=heap_setN hb2 1 _;rw[hx]at h2;simp only[Option.some.injEq,Obj.cells.injEq,Array.mk.injEq,List.cons.injEq,and_true,true_and]at h2;exact h2.symm
  subst e3;exact⟨by simp[World.setCell];omega,_,_,.inr rfl,h1,h2,h3,rfl,h4⟩
 ·intro k hk;cases hk
  rcases hnew g rfl with h|h
  ·exact .inl (hvr ▸ h)
  ·have h:w1.heap.size+1≤g:=by simpa using h
   exact .inr (by omega)
 ·exact⟨((hw1.1.alloc (by omega) _).grown hgrow (by simp;omega) (fun k hk=>(hown.lt k hk).1)).setCell (p:=⟨b,1,none⟩) hB _,((hw1.2.alloc _).grown hgrow (Lib.ownsRowF_kind (hown.alloc _))).setCell ⟨b,1,none⟩ rfl _⟩
 ·intro k hk hkb hkr;rw[Below.heap_setCell _ _ _ _ (fun e=>hkb e),hgrow.block k (by simp;omega) (fun e=>hkr (hvr ▸ e.symm)),Lib.alloc_old w1 _ k (by omega)];exact hf1.block k hk (by simpa using hkb)
end
end
section
open Go
def isDig (c:UInt8):Bool:=decide (48≤c.toNat∧c.toNat≤57)
def digsOK (l:List UInt8) (most:Nat):Bool:=l.all isDig&&(decide (1≤l.length)&&decide (l.length≤most))
/-- what digits stand for -/
def decVal (l:List UInt8):Nat:=l.foldl (fun a c=>a*10+(c.toNat - 48)) 0
theorem decVal_snoc (l:List UInt8) (c:UInt8):decVal (l++[c])=decVal l*10+(c.toNat - 48):=by
 unfold decVal;rw[List.foldl_append];rfl
theorem dig_ofNat {d:Nat} (h:d<10):(UInt8.ofNat (48+d)).toNat=48+d:=by
 rw[UInt8.toNat_ofNat'];omega
theorem dec_spec (n:Nat):(Lib.decDigits n).all isDig=true∧decVal (Lib.decDigits n)=n∧1≤(Lib.decDigits n).length:=by
 induction n using Nat.strongRecOn with
 | ind n ih =>
  rw[Lib.decDigits];by_cases h:n<10
  ·rw[dif_pos h];have e:=dig_ofNat h;refine⟨?_,?_,by simp⟩
   ·simp only[List.all_cons,List.all_nil,Bool.and_true,isDig];rw[e];simp;omega
   ·simp only[decVal,List.foldl_cons,List.foldl_nil];rw[e];omega
  ·rw[dif_neg h];obtain⟨i1,i2,_⟩:=ih (n / 10) (by omega);have e:=dig_ofNat (show n % 10<10 by omega);refine⟨?_,?_,by simp⟩
   ·rw[List.all_append,i1];simp only[List.all_cons,List.all_nil,Bool.and_true,Bool.true_and,isDig];rw[e];simp;omega
   ·rw[decVal_snoc,i2,e];omega
theorem dec_inj {a b:Nat} (h:Lib.decDigits a=Lib.decDigits b):a=b:=by
 have:=congrArg decVal h;rwa [(dec_spec a).2.1,(dec_spec b).2.1]at this
theorem split_at {a b c d:List UInt8} {x:UInt8} (ha:a.all isDig=true) (hb:b.all isDig=true) (hx:isDig x=false) (h:a++x::c=b++x::d):a=b∧c=d:=by
 induction a generalizing b with
 | nil =>
  cases b with
  | nil=>simpa using h
  | cons y b =>
   simp only[List.nil_append,List.cons_append,List.cons.injEq]at h;rw[List.all_cons,←h.1,hx]at hb;cases hb
 | cons y a ih =>
  cases b with
  | nil =>
   simp only[List.nil_append,List.cons_append,List.cons.injEq]at h;rw[List.all_cons,h.1,hx]at ha;cases ha
  | cons z b =>
   simp only[List.cons_append,List.cons.injEq]at h;rw[List.all_cons,Bool.and_eq_true]at ha hb;obtain⟨e1,e2⟩:=ih ha.2 hb.2 h.2;exact⟨by rw[h.1,e1],e2⟩
theorem dec_head (n:Nat):∃ c r,Lib.decDigits n=c::r∧isDig c=true:=by
 obtain⟨h1,_,h3⟩:=dec_spec n;cases hd:Lib.decDigits n with
 | nil=>rw[hd]at h3;simp at h3
 | cons c r=>rw[hd,List.all_cons,Bool.and_eq_true]at h1;exact⟨c,r,rfl,h1.1⟩
theorem itoa_inj {e f:Int} (h:Lib.itoa e=Lib.itoa f):e=f:=by
 unfold Lib.itoa at h;split at h<;>split at h
 ·have:=dec_inj (List.cons.inj h).2;omega
 ·obtain⟨c,r,hc,hd⟩:=dec_head f.toNat;rw[hc,List.cons.injEq]at h;rw[←h.1]at hd;cases hd
 ·obtain⟨c,r,hc,hd⟩:=dec_head e.toNat;rw[hc,List.cons.injEq]at h;rw[h.1]at hd;cases hd
 ·have:=dec_inj h;omega
/-- a text of an odd number and a place tells these -/
theorem txt_inj {a b:Nat} {e f:Int} (h:Lib.decDigits a++112::Lib.itoa e=Lib.decDigits b++112::Lib.itoa f):a=b∧e=f:=by
 obtain⟨h1,h2⟩:=split_at (dec_spec a).1 (dec_spec b).1 (by decide) h;exact⟨dec_inj h1,itoa_inj h2⟩
end
section
open Go Ieee
def exB (neg:Bool) (n:Nat) (k:Int):Nat :=
 if n=0 then double.word neg 0 else if rep (odd n) (k+tz n) then double.word neg (Fl.rungOf (odd n) (k+tz n)) else 0
def exE (n:Nat) (k:Int):Int:=if n=0 then 0 else if rep (odd n) (k+tz n) then 0 else 3
/-- the first 'p': what stands ahead of it and behind it -/
def splitP:List UInt8→Option (List UInt8 × List UInt8)
 | []=>none
 | c::r=>if c=112 then some ([],r) else(splitP r).map fun x=>(c::x.1,x.2)
theorem index_p:∀ l:List UInt8,(splitP l=none∧Lib.index l [112] = -1)∨(∃ a b,splitP l=some (a,b)∧l=a++112::b∧Lib.index l [112]=(a.length:Int))
 | []=>.inl ⟨rfl,rfl⟩
 | c::r=>by
  rw[splitP,Lib.index];by_cases h:c=112
  ·subst h;right;exact⟨[],r,by simp,by simp,by simp[List.isPrefixOf]⟩
  ·have hp:([112]:List UInt8).isPrefixOf (c::r)=false:=by simp[List.isPrefixOf];exact fun e=>h e.symm
   rw[hp,if_neg h];rcases index_p r with ⟨h1,h2⟩|⟨a,b,h1,h2,h3⟩
   ·left;rw[h1,h2];exact⟨rfl,rfl⟩
   ·right;refine⟨c::a,b,by rw[h1];rfl,by rw[h2];rfl,?_⟩;rw[h3];have:((a.length:Int) == -1)=false:=by simp
    rw[this];simp
theorem cut_p (l:List UInt8):Lib.cut l [112]=match splitP l with|some (a,b)=>(a,b,true)|none=>(l,[],false):=by
 unfold Lib.cut;rcases index_p l with ⟨h1,h2⟩|⟨a,b,h1,h2,h3⟩
 ·rw[h1,h2];rfl
 ·rw[h1,h3,if_pos (by omega)];have e:(a.length:Int).toNat=a.length:=by omega
  rw[e];have h4:l.take a.length=a:=by rw[h2];simp
  have h5:l.drop (a.length+([112]:List UInt8).length)=b:=by
   rw[h2];have:a++112::b=(a++[112])++b:=by simp
   rw[this];exact List.drop_left' (by simp)
  rw[h4,h5]
/-- the minus ahead of a text, and the rest -/
def isNeg (l:List UInt8):Bool:=l.head?==some 45
def unNeg (l:List UInt8):List UInt8:=if isNeg l then l.tail else l
theorem hasPrefix_neg (l:List UInt8):Lib.hasPrefix l [45]=isNeg l:=by
 unfold Lib.hasPrefix isNeg;cases l with
 | nil=>rfl
 | cons c r =>
  simp only[List.isPrefixOf,Bool.and_true,List.head?_cons];by_cases h:c=45
  ·subst h;rfl
  ·have h2:¬ 45=c:=fun e=>h e.symm
   rw[show((45:UInt8)==c)=false from beq_eq_false_iff_ne.2 h2,show(some c==some (45:UInt8))=(c==45) from rfl,beq_eq_false_iff_ne.2 h]
theorem trimPrefix_neg (l:List UInt8):Lib.trimPrefix l [45]=unNeg l:=by
 unfold Lib.trimPrefix unNeg;rw[hasPrefix_neg];cases isNeg l
 ·rfl
 ·exact List.drop_one
def parseB (l:List UInt8):Nat × Int :=
 if l=[110,97,110] then(9221120237041090560,0)
 else if unNeg l=[105,110,102] then(double.word (isNeg l) 9218868437227405312,0)
 else match splitP (unNeg l) with
  | none=>(0,5)
  | some (m,p) =>
   if digsOK m 20&&digsOK (unNeg p) 4 then
    if 9007199254740992<decVal m then(0,3)
    else(exB (isNeg l) (decVal m) (if isNeg p then -(decVal (unNeg p):Int) else decVal (unNeg p)),exE (decVal m) (if isNeg p then -(decVal (unNeg p):Int) else decVal (unNeg p)))
   else(0,5)
theorem foldl_ge (l:List UInt8) (a:Nat):a≤l.foldl (fun a c=>a*10+(c.toNat - 48)) a:=by
 induction l generalizing a with
 | nil=>exact Nat.le_refl _
 | cons c r ih=>exact Nat.le_trans (by omega) (ih (a*10+(c.toNat - 48)))
theorem parseM_digs (l:List UInt8) (h:l.all isDig=true) (a:Nat) (ha:a<18446744073709551616) :
  Lib.parseUintM (2 ^ 64 - 1) a l=if l.foldl (fun a c=>a*10+(c.toNat - 48)) a<18446744073709551616 then .ok (l.foldl (fun a c=>a*10+(c.toNat - 48)) a) else .range:=by
 induction l generalizing a with
 | nil=>rw[Lib.parseUintM,List.foldl_nil,if_pos ha]
 | cons c r ih =>
  rw[List.all_cons,Bool.and_eq_true]at h;have hc:48≤c.toNat∧c.toNat≤57:=by simpa [isDig] using h.1
  rw[Lib.parseUintM,if_pos hc,List.foldl_cons];have hg:=foldl_ge r (a*10+(c.toNat - 48));by_cases h1:1844674407370955162≤a
  ·rw[if_pos h1,if_neg (by omega)]
  ·rw[if_neg h1];by_cases h2:2 ^ 64 - 1<a*10+(c.toNat - 48)
   ·rw[if_pos h2,if_neg (by omega)]
   ·rw[if_neg h2,ih h.2 _ (by omega)]
theorem parseUint_digs (l:List UInt8) (h:l.all isDig=true) (h0:1≤l.length):Lib.parseUintB 64 l=if decVal l<18446744073709551616 then .ok (decVal l) else .range:=by
 unfold Lib.parseUintB;rw[if_neg (by intro e;subst e;simp at h0),parseM_digs l h 0 (by omega)];rfl
theorem parse10_digs (l:List UInt8) (h:l.all isDig=true) (a:Nat) (ha:l.foldl (fun a c=>a*10+(c.toNat - 48)) a<1000000000) :
  Lib.parseUint10 a l=.ok (l.foldl (fun a c=>a*10+(c.toNat - 48)) a):=by
 induction l generalizing a with
 | nil=>rfl
 | cons c r ih =>
  rw[List.all_cons,Bool.and_eq_true]at h;have hc:48≤c.toNat∧c.toNat≤57:=by simpa [isDig] using h.1
  rw[List.foldl_cons]at ha ⊢
  have hg:=foldl_ge r (a*10+(c.toNat - 48));rw[Lib.parseUint10,if_pos hc,if_neg (by omega),if_neg (by omega),ih h.2 _ ha]
theorem decVal_lt (l:List UInt8) (h:l.all isDig=true):decVal l<10 ^ l.length:=by
 suffices ∀ (l:List UInt8) (a:Nat),l.all isDig=true→l.foldl (fun a c=>a*10+(c.toNat - 48)) a<(a+1)*10 ^ l.length by
  have:=this l 0 h;simpa [decVal] using this
 intro l;induction l with
 | nil=>intro a _;simp
 | cons c r ih =>
  intro a h;rw[List.all_cons,Bool.and_eq_true]at h;have hc:48≤c.toNat∧c.toNat≤57:=by simpa [isDig] using h.1
  rw[List.foldl_cons,List.length_cons];refine Nat.lt_of_lt_of_le (ih _ h.2) ?_;rw[Nat.pow_succ,Nat.mul_comm (10 ^ r.length) 10,←Nat.mul_assoc];exact Nat.mul_le_mul_right _ (by omega)
theorem atoi_digs (l:List UInt8) (h:digsOK l 4=true):Lib.atoiAll l=.ok (decVal l:Int)∧decVal l<10000:=by
 unfold digsOK at h;simp only[Bool.and_eq_true,decide_eq_true_eq]at h;obtain⟨h1,h2,h3⟩:=h;have hlt:decVal l<10000:=by
  have:=decVal_lt l h1;have h4:10 ^ l.length≤10 ^ 4:=Nat.pow_le_pow_right (by omega) h3;omega
 refine⟨?_,hlt⟩;cases l with
 | nil=>simp at h2
 | cons c r =>
  have hc:48≤c.toNat∧c.toNat≤57:=by
   rw[List.all_cons,Bool.and_eq_true]at h1;simpa [isDig] using h1.1
  unfold Lib.atoiAll;simp only;rw[if_neg (by omega)];unfold Lib.parseMag;rw[if_neg (by simp),parse10_digs _ h1 0 (by show decVal (c::r)<_;omega)];simp only;rw[if_neg (by show ¬ (_∧9223372036854775808≤decVal (c::r));omega),if_neg (by omega),if_neg (by omega)];rfl
end
section
open Go
/-- how far a text goes on so from a place -/
def far (p:UInt8→Bool) (l:List UInt8) (a:Nat):Nat:=((l.drop a).takeWhile p).length
theorem far_le (p:UInt8→Bool) (l:List UInt8) {a:Nat} (h:a≤l.length):a+far p l a≤l.length:=by
 have h1:((l.drop a).takeWhile p).length≤(l.drop a).length:=List.Sublist.length_le (List.takeWhile_sublist p);rw[List.length_drop]at h1;unfold far;omega
theorem far_end (p:UInt8→Bool) {l:List UInt8} {a:Nat} (h:l.length≤a):far p l a=0:=by
 unfold far;rw[List.drop_eq_nil_of_le h];rfl
theorem far_stop (p:UInt8→Bool) {l:List UInt8} {a:Nat} (h:a<l.length) (hp:p (l.getD a 0)=false):far p l a=0:=by
 have e:l.getD a 0=l[a]:=by simp[List.getD,h]
 unfold far;rw[List.drop_eq_getElem_cons h,List.takeWhile_cons,if_neg (by rw[←e,hp];decide)];rfl
theorem far_go (p:UInt8→Bool) {l:List UInt8} {a:Nat} (h:a<l.length) (hp:p (l.getD a 0)=true):far p l a=far p l (a+1)+1:=by
 have e:l.getD a 0=l[a]:=by simp[List.getD,h]
 unfold far;rw[List.drop_eq_getElem_cons h,List.takeWhile_cons,if_pos (by rw[←e,hp])];rfl
def isBl (c:UInt8):Bool:=c==32||c==9||c==10||c==13
def isLet (c:UInt8):Bool:=decide (97≤c.toNat∧c.toNat≤122)
def isNm (c:UInt8):Bool:=isLet c||isDig c||c==95
/-- a token: its kind, where it begins and ends, its number, its float (as bits), its text -/
structure Tk where
 kind:Int
 pos:Nat
 next:Nat
 num:Int
 flt:Nat
 str:List UInt8
def part (l:List UInt8) (a e:Nat):List UInt8:=(l.drop a).take (e - a)
def noTk:Tk:=⟨0,0,0,0,0,[]⟩
/-- an int, or a float -/
def numS (l:List UInt8) (a:Nat):Tk × Int :=
 let i:=a+far isDig l a
 if l[i]?=some 112 then
  let k:=if l[i+1]?=some 45 then i+2 else i+1
  let j:=k+far isDig l k
  if far isDig l k=0 then(noTk,5) else(⟨3,a,j,0,(parseB (part l a j)).1,[]⟩,(parseB (part l a j)).2)
 else if 19<far isDig l a∨9223372036854775808≤decVal (part l a i) then(noTk,3)
 else(⟨2,a,i,decVal (part l a i),0,[]⟩,0)
/-- a name -/
def nameS (l:List UInt8) (a:Nat):Tk × Int :=
 let i:=a+far isNm l a
 let w:=part l a i
 if w=[110,97,110]∨w=[105,110,102] then(⟨3,a,i,0,(parseB w).1,[]⟩,0)
 else if 30<far isNm l a then(noTk,3)
 else(⟨5,a,i,0,0,w⟩,0)
/-- what stands within a string's marks, and how many bytes were read up to the mark and with it; or an error -/
def inMarks:List UInt8→Except Int (List UInt8 × Nat)
 | []=>.error 14
 | c::r =>
  if c=34 then .ok ([],1)
  else if c=92 then
   match r with
   | []=>.error 14
   | d::q=>if d=34∨d=92 then(match inMarks q with|.ok x=>.ok (d::x.1,x.2+2)|.error e=>.error e) else .error 5
  else(match inMarks r with|.ok x=>.ok (c::x.1,x.2+1)|.error e=>.error e)
def strS (l:List UInt8) (a:Nat):Tk × Int :=
 match inMarks (l.drop (a+1)) with
 | .error e=>(noTk,e)
 | .ok (w,n)=>if 200<w.length then(noTk,3) else(⟨4,a,a+1+n,0,0,w⟩,0)
def twos:List (List UInt8):=[[61,61],[60,61],[38,38],[124,124]]
def ones:List UInt8:=[40,41,91,93,123,125,44,58,46,63,43,45,42,47,37,33,60]
/-- a sign -/
def signS (l:List UInt8) (a:Nat):Tk × Int :=
 if twos.contains (part l a (a+2)) then(⟨6,a,a+2,0,0,part l a (a+2)⟩,0)
 else if ones.contains (l.getD a 0) then(⟨6,a,a+1,0,0,[l.getD a 0]⟩,0)
 else(noTk,5)
/-- the token behind the blanks at a place, its error, and where it begins -/
def tokS (l:List UInt8) (b:Nat):Tk × Int :=
 let a:=b+far isBl l b
 if a=l.length then(⟨1,a,a,0,0,[]⟩,0)
 else
  let c:=l.getD a 0
  if isDig c then numS l a else if isLet c then nameS l a else if c=34 then strS l a else signS l a
end
section
open Go
def pre (o:List UInt8) (n:Nat):Except Int (List UInt8 × Nat)→Except Int (List UInt8 × Nat)
 | .ok x=>.ok (o++x.1,n+x.2)
 | .error e=>.error e
theorem pre_nil (x:Except Int (List UInt8 × Nat)):pre [] 0 x=x:=by
 cases x with
 | ok y=>obtain⟨a,b⟩:=y;show Except.ok (a,0+b)=_;rw[Nat.zero_add]
 | error e=>rfl
theorem pre_pre (a b:List UInt8) (m n:Nat) (x:Except Int (List UInt8 × Nat)):pre a m (pre b n x)=pre (a++b) (m+n) x:=by
 cases x with
 | ok y=>show Except.ok (a++(b++y.1),m+(n+y.2))=Except.ok ((a++b)++y.1,m+n+y.2);rw[List.append_assoc,Nat.add_assoc]
 | error e=>rfl
theorem drop_at {l:List UInt8} {k:Nat} {c:UInt8} (h:l[k]?=some c):l.drop k=c::l.drop (k+1):=by
 obtain⟨hk,e⟩:=List.getElem?_eq_some_iff.1 h;rw[List.drop_eq_getElem_cons hk,e]
theorem marks_end {l:List UInt8} {k:Nat} (h:l.length≤k):inMarks (l.drop k)=.error 14:=by
 rw[List.drop_eq_nil_of_le h];rfl
theorem marks_quote {l:List UInt8} {k:Nat} (h:l[k]?=some 34):inMarks (l.drop k)=.ok ([],1):=by
 rw[drop_at h,inMarks.eq_def];rfl
theorem marks_esc_end {l:List UInt8} {k:Nat} (h:l[k]?=some 92) (h1:l.length≤k+1):inMarks (l.drop k)=.error 14:=by
 rw[drop_at h,List.drop_eq_nil_of_le h1,inMarks.eq_def];rfl
theorem marks_esc_bad {l:List UInt8} {k:Nat} {d:UInt8} (h:l[k]?=some 92) (h1:l[k+1]?=some d) (h2:d≠34) (h3:d≠92):inMarks (l.drop k)=.error 5:=by
 rw[drop_at h,drop_at h1,inMarks.eq_def];dsimp only;rw[if_neg (by decide),if_pos rfl,if_neg (by rintro(e|e)<;>contradiction)]
theorem marks_esc {l:List UInt8} {k:Nat} {d:UInt8} (h:l[k]?=some 92) (h1:l[k+1]?=some d) (h2:d=34∨d=92):inMarks (l.drop k)=pre [d] 2 (inMarks (l.drop (k+2))):=by
 rw[drop_at h,drop_at h1,inMarks.eq_def];dsimp only;rw[if_neg (by decide),if_pos rfl,if_pos h2];cases inMarks (l.drop (k+2)) with
 | ok x=>show Except.ok (d::x.1,x.2+2)=Except.ok (d::x.1,2+x.2);rw[Nat.add_comm]
 | error e=>rfl
theorem marks_plain {l:List UInt8} {k:Nat} {c:UInt8} (h:l[k]?=some c) (h2:c≠34) (h3:c≠92):inMarks (l.drop k)=pre [c] 1 (inMarks (l.drop (k+1))):=by
 rw[drop_at h,inMarks.eq_def];dsimp only;rw[if_neg h2,if_neg h3];cases inMarks (l.drop (k+1)) with
 | ok x=>show Except.ok (c::x.1,x.2+1)=Except.ok (c::x.1,1+x.2);rw[Nat.add_comm]
 | error e=>rfl
/-- what has been read up to k, put before what is still to be read -/
def Marked (l:List UInt8) (a k:Nat) (o:List UInt8):Prop:=inMarks (l.drop (a+1))=pre o (k - (a+1)) (inMarks (l.drop k))∧a+1≤k∧o.length+a+1≤k
theorem Marked.start (l:List UInt8) (a:Nat):Marked l a (a+1) []:=⟨by rw[Nat.sub_self,pre_nil],Nat.le_refl _,by simp⟩
theorem Marked.plain {l:List UInt8} {a k:Nat} {o:List UInt8} (h:Marked l a k o) {c:UInt8} (hc:l[k]?=some c) (h2:c≠34) (h3:c≠92):Marked l a (k+1) (o++[c]):=by
 obtain⟨h1,hk,ho⟩:=h;refine⟨?_,by omega,by simp;omega⟩;rw[h1,marks_plain hc h2 h3,pre_pre];congr 1
 omega
theorem Marked.esc {l:List UInt8} {a k:Nat} {o:List UInt8} (h:Marked l a k o) {c:UInt8} (hb:l[k]?=some 92) (hc:l[k+1]?=some c) (h2:c=34∨c=92):Marked l a (k+2) (o++[c]):=by
 obtain⟨h1,hk,ho⟩:=h;refine⟨?_,by omega,by simp;omega⟩;rw[h1,marks_esc hb hc h2,pre_pre];congr 1
 omega
theorem strS_err {l:List UInt8} {a:Nat} {e:Int} (h:inMarks (l.drop (a+1))=.error e):strS l a=(noTk,e):=by
 unfold strS;rw[h]
theorem Marked.torn {l:List UInt8} {a k:Nat} {o:List UInt8} (h:Marked l a k o) (hk:l.length≤k):strS l a=(noTk,14):=by
 apply strS_err;rw[h.1,marks_end hk];rfl
theorem Marked.torn1 {l:List UInt8} {a k:Nat} {o:List UInt8} (h:Marked l a k o) (hb:l[k]?=some 92) (hk:l.length≤k+1):strS l a=(noTk,14):=by
 apply strS_err;rw[h.1,marks_esc_end hb hk];rfl
theorem Marked.form {l:List UInt8} {a k:Nat} {o:List UInt8} (h:Marked l a k o) {d:UInt8} (hb:l[k]?=some 92) (h1:l[k+1]?=some d) (h2:d≠34) (h3:d≠92):strS l a=(noTk,5):=by
 apply strS_err;rw[h.1,marks_esc_bad hb h1 h2 h3];rfl
theorem Marked.shut {l:List UInt8} {a k:Nat} {o:List UInt8} (h:Marked l a k o) (hb:l[k]?=some 34):strS l a=if 200<o.length then(noTk,3) else(⟨4,a,k+1,0,0,o⟩,0):=by
 have hq:inMarks (l.drop (a+1))=.ok (o,k - (a+1)+1):=by
  rw[h.1,marks_quote hb];show Except.ok (o++[],_)=_;rw[List.append_nil]
 have hk:=h.2.1;unfold strS;rw[hq];simp only;rw[show a+1+(k - (a+1)+1)=k+1 by omega]
end
section
open Go
/-- a value: its kind, number, float (as bits), text, names, items -/
inductive VT where
 | mk (kind num:Int) (flt:Nat) (str:List UInt8) (names:List (List UInt8)) (items:List VT)
def VT.kind:VT→Int|.mk k _ _ _ _ _=>k
def VT.num:VT→Int|.mk _ n _ _ _ _=>n
def VT.flt:VT→Nat|.mk _ _ f _ _ _=>f
def VT.str:VT→List UInt8|.mk _ _ _ s _ _=>s
def VT.names:VT→List (List UInt8)|.mk _ _ _ _ ns _=>ns
def VT.items:VT→List VT|.mk _ _ _ _ _ its=>its
mutual
/-- parts, counted on from n, while there are fewer than 500 -/
def countV:VT→Nat→Nat
 | .mk _ _ _ _ _ its,n=>countL its (n+1)
def countL:List VT→Nat→Nat
 | [],n=>n
 | x::xs,n=>if 500≤n then n else countL xs (countV x n)
end
mutual
theorem countV_le:∀ (v:VT) (n:Nat),n<500→countV v n≤500∧n<countV v n
 | .mk _ _ _ _ _ its,n,h=>by
  have:=countL_le its (n+1) (by omega);rw[countV];omega
theorem countL_le:∀ (l:List VT) (n:Nat),n≤500→countL l n≤500∧n≤countL l n
 | [],n,h=>by rw[countL];omega
 | x::xs,n,h=>by
  rw[countL];by_cases hn:500≤n
  ·rw[if_pos hn];omega
  ·rw[if_neg hn];have h1:=countV_le x n (by omega);have h2:=countL_le xs (countV x n) h1.1;omega
end
/-- what may be a name -/
def nmB (l:List UInt8):Bool:=decide (1≤l.length∧l.length≤30)&&isLet (l.getD 0 0)&&l.all isNm
/-- names, each behind the one before it -/
def risesB:List (List UInt8)→Bool
 | []=>true
 | [a]=>nmB a
 | a::b::l=>nmB a&&Op.bytesLess a b&&risesB (b::l)
def zeroB (f:Nat):Bool:=decide (canon f=0)
mutual
/-- right, within so many -/
def rightV:VT→Nat→Bool
 | .mk k n f s ns its,far =>
  if far<1 then false
  else if k=1 then its.isEmpty&&ns.isEmpty&&zeroB f&&s.isEmpty&&decide (n=0∨n=1)
  else if k=2 then its.isEmpty&&ns.isEmpty&&zeroB f&&s.isEmpty
  else if k=3 then its.isEmpty&&ns.isEmpty&&decide (n=0)&&s.isEmpty
  else if k=4 then its.isEmpty&&ns.isEmpty&&zeroB f&&decide (n=0)&&decide (s.length≤200)
  else if k=5 then zeroB f&&decide (n=0)&&s.isEmpty&&ns.isEmpty&&rightL its (far - 1)
  else if k=6 then zeroB f&&decide (n=0)&&s.isEmpty&&(risesB ns&&decide (ns.length=its.length))&&rightL its (far - 1)
  else false
def rightL:List VT→Nat→Bool
 | [],_=>true
 | x::xs,far=>rightV x far&&rightL xs far
end
/-- a right value -/
def rightB (v:VT):Bool:=decide (countV v 0≤200)&&rightV v 12
end
section
open Go.RowKit
def Strs (w:World) (l:List (List UInt8)) (v:Value):Prop :=
 l.length≤140737488355328∧(∀ s ∈ l,s.length≤140737488355328) ∧
 ((l=[]∧∃ p c,v=.slice p 0 c)∨∃ g off cap,v=.slice (some ⟨g,off,none⟩) l.length cap∧g<w.heap.size∧∀ i,i<l.length→w.cell? ⟨g,off+i,none⟩=some (.string ⟨(l.getD i []).toArray⟩))
def noVT:VT:=.mk 0 0 0 [] [] []
/-- the cells of a value, so many deep -/
def ValAt (w:World):Nat→VT→Array Value→Prop
 | 0,_,_=>False
 | d+1,v,cs=>∃ pn pi,cs=#[.int .i64 v.kind,.int .i64 v.num,.float .f64 v.flt,.string ⟨v.str.toArray⟩,pn,pi] ∧
   (-9223372036854775808≤v.kind∧v.kind≤9223372036854775807)∧(-9223372036854775808≤v.num∧v.num≤9223372036854775807)∧F64 v.flt∧v.str.length≤140737488355328∧Strs w v.names pn∧v.items.length≤140737488355328 ∧
   ((v.items=[]∧∃ p c,pi=.slice p 0 c)∨∃ g off cap,pi=.slice (some ⟨g,off,none⟩) v.items.length cap∧g<w.heap.size ∧
    ∀ i,i<v.items.length→∃ ds,ValAt w d (v.items.getD i noVT) ds∧∀ j,j<6→w.cell? ⟨g,off+i*6+j,none⟩=ds[j]?)
theorem Strs.kept {w w':World} {l:List (List UInt8)} {v:Value} (h:Strs w l v) (hb:Below w.heap.size w w'):Strs w' l v:=by
 obtain⟨h1,h2,h|⟨g,off,cap,h3,h4,h5⟩⟩:=h
 ·exact⟨h1,h2,.inl h⟩
 ·exact⟨h1,h2,.inr ⟨g,off,cap,h3,Nat.lt_of_lt_of_le h4 hb.size,fun i hi=>(hb.cell (p:=⟨g,off+i,none⟩) h4).trans (h5 i hi)⟩⟩
theorem ValAt.kept {w w':World} (hb:Below w.heap.size w w'):∀ (d:Nat) (v:VT) (cs:Array Value),ValAt w d v cs→ValAt w' d v cs
 | 0,_,_,h=>h
 | d+1,v,cs,h=>by
  obtain⟨pn,pi,h1,h2,h3,h4,h5,h6,h7,h8⟩:=h;refine⟨pn,pi,h1,h2,h3,h4,h5,h6.kept hb,h7,?_⟩;rcases h8 with h8|⟨g,off,cap,a1,a2,a3⟩
  ·exact .inl h8
  ·refine .inr ⟨g,off,cap,a1,Nat.lt_of_lt_of_le a2 hb.size,fun i hi=>?_⟩;obtain⟨ds,b1,b2⟩:=a3 i hi;exact⟨ds,ValAt.kept hb d _ ds b1,fun j hj=>(hb.cell (p:=⟨g,off+i*6+j,none⟩) a2).trans (b2 j hj)⟩
theorem ValAt.more {w:World}:∀ (d:Nat) (v:VT) (cs:Array Value),ValAt w d v cs→ValAt w (d+1) v cs
 | 0,_,_,h=>h.elim
 | d+1,v,cs,h=>by
  obtain⟨pn,pi,h1,h2,h3,h4,h5,h6,h7,h8⟩:=h;refine⟨pn,pi,h1,h2,h3,h4,h5,h6,h7,?_⟩;rcases h8 with h8|⟨g,off,cap,a1,a2,a3⟩
  ·exact .inl h8
  ·refine .inr ⟨g,off,cap,a1,a2,fun i hi=>?_⟩;obtain⟨ds,b1,b2⟩:=a3 i hi;exact⟨ds,ValAt.more d _ ds b1,b2⟩
end
section
open Go
mutual
/-- whose numbers are within their bounds -/
def inV:VT→Prop
 | .mk k n f _ _ its=>(-9223372036854775808≤k∧k≤9223372036854775807)∧(-9223372036854775808≤n∧n≤9223372036854775807)∧f<18446744073709551616∧inL its
def inL:List VT→Prop
 | []=>True
 | x::xs=>inV x∧inL xs
end
end
section
open Go.RowKit
theorem countL_stop {l:List VT} {m:Nat} (h:500≤m):countL l m=m:=by
 cases l with
 | nil=>rw[countL]
 | cons x xs=>rw[countL,if_pos h]
theorem countL_drop {l:List VT} {i m:Nat} (hi:i<l.length) (h:m<500):countL (l.drop i) m=countL (l.drop (i+1)) (countV (l.getD i noVT) m):=by
 have e:l.getD i noVT=l[i]:=by simp[List.getD,hi]
 rw[List.drop_eq_getElem_cons hi,countL,if_neg (by omega),e]
theorem countL_end {l:List VT} {i m:Nat} (hi:l.length≤i):countL (l.drop i) m=m:=by
 rw[List.drop_eq_nil_of_le hi,countL]
theorem ValAt.form {w:World} {d:Nat} {v:VT} {cs:Array Value} (h:ValAt w d v cs):∃ pn pi,cs=#[.int .i64 v.kind,.int .i64 v.num,.float .f64 v.flt,.string ⟨v.str.toArray⟩,pn,pi]:=by
 cases d with
 | zero=>exact h.elim
 | succ d=>obtain⟨pn,pi,h1,_⟩:=h;exact⟨pn,pi,h1⟩
theorem rcount_any:∀ (d:Nat) (v:VT) (cs:Array Value) (n:Nat) (w:World),ValAt w d v cs→n<500 →
  Calls Tryz.prog 68 #[.agg cs,.int .i64 (n:Int)] w fun e w'=>e=.returned (.int .i64 (countV v n:Nat))∧Below w.heap.size w w'
 | 0,_,_,_,_,h,_=>h.elim
 | d+1,v,cs,n,w,h,hn=>by
  obtain⟨pn,pi,rfl,h2,h3,h4,h5,h6,h7,h8⟩:=h;have ih:=zh (rcount_any d);have hcv:countV v n=countL v.items (n+1):=by cases v;rw[countV];rfl
  have HCV:=zh hcv;clear hcv h2 h3 h4 h5 h6;have hB:Below w.heap.size w (w.alloc (.cells #[.int .i64 v.kind,.int .i64 v.num,.float .f64 v.flt,.string ⟨v.str.toArray⟩,pn,pi] 26)):=(Below.refl _ _).alloc (Nat.le_refl _) _;have hnew:(w.alloc (.cells #[.int .i64 v.kind,.int .i64 v.num,.float .f64 v.flt,.string ⟨v.str.toArray⟩,pn,pi] 26)).heap[w.heap.size]?=some (.cells #[.int .i64 v.kind,.int .i64 v.num,.float .f64 v.flt,.string ⟨v.str.toArray⟩,pn,pi] 26 (0,0)):=heap_alloc_new w _;have hK:w.heap.size+1=(w.alloc (.cells #[.int .i64 v.kind,.int .i64 v.num,.float .f64 v.flt,.string ⟨v.str.toArray⟩,pn,pi] 26)).heap.size:=by simp
  obtain⟨its,hits⟩:∃ its,its=v.items:=⟨_,rfl⟩;rw[←hits]at h7 h8 HCV;have h8':∃ p cap,pi=.slice p its.length cap∧∀ i,i<its.length→∃ g off,p=some ⟨g,off,none⟩∧g<w.heap.size∧∃ ds,ValAt w d (its.getD i noVT) ds∧∀ j,j<6→w.cell? ⟨g,off+i*6+j,none⟩=ds[j]?:=by
   rcases h8 with ⟨h8,p,c,hp⟩|⟨g,off,cap,hp,hg,hc⟩
   ·subst h8;exact⟨p,c,hp,fun i hi=>absurd hi (by simp)⟩
   ·exact⟨_,cap,hp,fun i hi=>⟨g,off,rfl,hg,hc i hi⟩⟩
  obtain⟨p,cap,rfl,h9⟩:=h8';have H9:=zh h9;clear h8 h9 hits;generalize hN:its.length=N at *;have HN:=zh hN;clear hN;go_in;go_wp2_with fail
  generalize w.alloc (.cells #[.int .i64 v.kind,.int .i64 v.num,.float .f64 v.flt,.string ⟨v.str.toArray⟩,pn,.slice p N cap] 26)=W0 at *;generalize hgh:w.heap.size=H at *;have HH:=zh hgh;clear hgh;have hW0:H<W0.heap.size:=by omega
  clear hK;have hB8:=Below.refl W0.heap.size W0;generalize hG:W0.heap.size=G at *;have HG:=zh hG;clear hG;go_loopw [1,5] (fun mv iv wr=>∃ i m:Nat,i≤N∧m≤500∧mv=.int .i64 m∧iv=.int .i64 i∧Below G W0 wr∧Hid (countV v n=countL (its.drop i) m)) (fun _ iv _=>N - (intOf iv).toNat)
  case atStart=>exact⟨0,n+1,by omega,by omega,by go_num,rfl,hB8,by show _=_;rw[List.drop_zero,HCV.out]⟩
  case round =>
   clear hB8;obtain⟨i,m,hi,hm,rfl,rfl,hBr,hcn⟩:=hrel;have hGr:G≤wr.heap.size:=by have:=hBr.size;rw[HG.out]at this;exact this
   have hBw:Below H w wr:=hB.trans (hBr.mono (by omega));have r5:wr.cell? ⟨H,5,none⟩=some (.slice p N cap):=(hBr.cell (p:=⟨H,5,none⟩) (by show H<G;omega)).trans (by simp[World.cell?,hnew]);have hmin:min (m:Int) 500=(m:Int):=by omega
   by_cases hlt:i<N
   ·have t0:decide ((i:Int)<(N:Int))=true:=by simp;omega
    by_cases h5:m<500
    ·have t1:decide ((m:Int)<500)=true:=by simp;omega
     obtain⟨g,off,rfl,hg,ds,hv,hcl⟩:=H9.out i hlt;obtain⟨qn,qi,rfl⟩:=ValAt.form hv;have x0:wr.cell? ⟨g,off+i*6,none⟩=some (.int .i64 (its.getD i noVT).kind):=(hBw.cell (p:=⟨g,off+i*6+0,none⟩) hg).trans (hcl 0 (by decide));have x1:wr.cell? ⟨g,off+i*6+1,none⟩=some (.int .i64 (its.getD i noVT).num):=(hBw.cell (p:=⟨g,off+i*6+1,none⟩) hg).trans (hcl 1 (by decide));have x2:wr.cell? ⟨g,off+i*6+2,none⟩=some (.float .f64 (its.getD i noVT).flt):=(hBw.cell (p:=⟨g,off+i*6+2,none⟩) hg).trans (hcl 2 (by decide));have x3:wr.cell? ⟨g,off+i*6+3,none⟩=some (.string ⟨(its.getD i noVT).str.toArray⟩):=(hBw.cell (p:=⟨g,off+i*6+3,none⟩) hg).trans (hcl 3 (by decide));have x4:wr.cell? ⟨g,off+i*6+4,none⟩=some (qn):=(hBw.cell (p:=⟨g,off+i*6+4,none⟩) hg).trans (hcl 4 (by decide));have x5:wr.cell? ⟨g,off+i*6+5,none⟩=some (qi):=(hBw.cell (p:=⟨g,off+i*6+5,none⟩) hg).trans (hcl 5 (by decide));have hv2:=ValAt.kept (w':=wr) (by rw[HH.out];exact hBw) d _ _ hv;have HC:=zh (ih.out _ _ m wr hv2 h5);have hdn:=countL_drop (l:=its) (i:=i) (m:=m) (by rw[HN.out];exact hlt) h5;have HD:=zh hdn;have hle:=countV_le (its.getD i noVT) m h5;generalize its.getD i noVT=k at *;generalize countV k m=m2 at *;have b1:(0:Int)≤(i:Int):=by omega
     have b2:(i:Int)<(N:Int):=by omega
     clear hdn hcl hv hv2 hmin;go_wp2_with fail
     refine(HC.out).mono ?_;rintro e w5 ⟨rfl,hb5⟩;have hB6:=hBr.trans (hb5.mono hGr);go_wp2_with fail
     go_roundw
     case rel=>exact⟨i+1,m2,by omega,hle.1,rfl,by go_num,hB6,by show _=_;rw[hcn.out,HD.out]⟩
     case measure=>simp[intOf];omega
    ·have t1:decide ((m:Int)<500)=false:=by simp;omega
     have HF:=zh (countL_stop (l:=its.drop i) (m:=m) (by omega));go_wp2_with fail
     go_ret;exact⟨ret_val (by rw[hcn.out,HF.out];rfl),by rw[HH.out];exact hBw⟩
   ·have t0:decide ((i:Int)<(N:Int))=false:=by simp;omega
    have HF:=zh (countL_end (l:=its) (i:=i) (m:=m) (by rw[HN.out];omega));go_wp2_with fail
    go_ret;exact⟨ret_val (by rw[hcn.out,HF.out];rfl),by rw[HH.out];exact hBw⟩
end
section
open Go.RowKit
mutual
/-- how deep, looked at so far -/
def depthV:VT→Nat→Nat
 | .mk _ _ _ _ _ its,far=>if far=0 then 1 else depthL its (far - 1)+1
def depthL:List VT→Nat→Nat
 | [],_=>0
 | x::xs,far=>max (depthV x far) (depthL xs far)
end
theorem rparts_any (d:Nat) (v:VT) (cs:Array Value) (w:World) (h:ValAt w d v cs) :
  Calls Tryz.prog 36 #[.agg cs] w fun e w'=>e=.returned (.int .i64 (countV v 0:Nat))∧Below w.heap.size w w':=by
 obtain⟨pn,pi,rfl⟩:=ValAt.form h;have hB:Below w.heap.size w (w.alloc (.cells #[.int .i64 v.kind,.int .i64 v.num,.float .f64 v.flt,.string ⟨v.str.toArray⟩,pn,pi] 26)):=(Below.refl _ _).alloc (Nat.le_refl _) _;have h2:=ValAt.kept hB d _ _ h;have HC:=zh (rcount_any d v _ 0 _ h2 (by omega));go_in;go_wp2_with fail
 refine(HC.out).mono ?_;rintro e w2 ⟨rfl,k2⟩;go_wp2_with fail
 go_ret;exact⟨rfl,hB.trans (k2.mono (by simp))⟩
theorem depthL_drop {l:List VT} {i m:Nat} (hi:i<l.length):depthL (l.drop i) m=max (depthV (l.getD i noVT) m) (depthL (l.drop (i+1)) m):=by
 have e:l.getD i noVT=l[i]:=by simp[List.getD,hi]
 rw[List.drop_eq_getElem_cons hi,depthL,e]
mutual
theorem depthV_le:∀ (v:VT) (n:Nat),depthV v n≤n+1
 | .mk _ _ _ _ _ its,n=>by
  rw[depthV];split
  ·omega
  ·have:=depthL_le its (n - 1);omega
theorem depthL_le:∀ (l:List VT) (n:Nat),depthL l n≤n+1
 | [],n=>by rw[depthL];omega
 | x::xs,n=>by
  rw[depthL];have h1:=depthV_le x n;have h2:=depthL_le xs n;omega
end
theorem rdepth_any:∀ (d:Nat) (v:VT) (cs:Array Value) (n:Nat) (w:World),ValAt w d v cs→n≤1000 →
  Calls Tryz.prog 35 #[.agg cs,.int .i64 (n:Int)] w fun e w'=>e=.returned (.int .i64 (depthV v n:Nat))∧Below w.heap.size w w'
 | 0,_,_,_,_,h,_=>h.elim
 | d+1,v,cs,n,w,h,hn=>by
  obtain⟨pn,pi,rfl,h2,h3,h4,h5,h6,h7,h8⟩:=h;have ih:=zh (rdepth_any d);have hcv:depthV v n=if n=0 then 1 else depthL v.items (n - 1)+1:=by cases v;rw[depthV];rfl
  have HCV:=zh hcv;clear hcv h2 h3 h4 h5 h6;have hB:Below w.heap.size w (w.alloc (.cells #[.int .i64 v.kind,.int .i64 v.num,.float .f64 v.flt,.string ⟨v.str.toArray⟩,pn,pi] 26)):=(Below.refl _ _).alloc (Nat.le_refl _) _;have hnew:(w.alloc (.cells #[.int .i64 v.kind,.int .i64 v.num,.float .f64 v.flt,.string ⟨v.str.toArray⟩,pn,pi] 26)).heap[w.heap.size]?=some (.cells #[.int .i64 v.kind,.int .i64 v.num,.float .f64 v.flt,.string ⟨v.str.toArray⟩,pn,pi] 26 (0,0)):=heap_alloc_new w _;have hK:w.heap.size+1=(w.alloc (.cells #[.int .i64 v.kind,.int .i64 v.num,.float .f64 v.flt,.string ⟨v.str.toArray⟩,pn,pi] 26)).heap.size:=by simp
  obtain⟨its,hits⟩:∃ its,its=v.items:=⟨_,rfl⟩;rw[←hits]at h7 h8 HCV;have h8':∃ p cap,pi=.slice p its.length cap∧∀ i,i<its.length→∃ g off,p=some ⟨g,off,none⟩∧g<w.heap.size∧∃ ds,ValAt w d (its.getD i noVT) ds∧∀ j,j<6→w.cell? ⟨g,off+i*6+j,none⟩=ds[j]?:=by
   rcases h8 with ⟨h8,p,c,hp⟩|⟨g,off,cap,hp,hg,hc⟩
   ·subst h8;exact⟨p,c,hp,fun i hi=>absurd hi (by simp)⟩
   ·exact⟨_,cap,hp,fun i hi=>⟨g,off,rfl,hg,hc i hi⟩⟩
  obtain⟨p,cap,rfl,h9⟩:=h8';have H9:=zh h9;clear h8 h9 hits;generalize hN:its.length=N at *;have HN:=zh hN;clear hN;go_in;go_wp2_with fail
  generalize w.alloc (.cells #[.int .i64 v.kind,.int .i64 v.num,.float .f64 v.flt,.string ⟨v.str.toArray⟩,pn,.slice p N cap] 26)=W0 at *;generalize hgh:w.heap.size=H at *;have HH:=zh hgh;clear hgh;have hW0:H<W0.heap.size:=by omega
  clear hK;have hB8:=Below.refl W0.heap.size W0;generalize hG:W0.heap.size=G at *;have HG:=zh hG;clear hG;go_loopw [5,6] (fun mv iv wr=>∃ i m:Nat,i≤N∧m≤2000∧mv=.int .i64 m∧iv=.int .i64 i∧Below G W0 wr∧(n=0→m=0)∧Hid (n≠0→depthL its (n - 1)=max m (depthL (its.drop i) (n - 1)))) (fun _ iv _=>N - (intOf iv).toNat)
  case atStart=>exact⟨0,0,by omega,by omega,rfl,rfl,hB8,fun _=>rfl,fun _=>by rw[List.drop_zero,Nat.zero_max]⟩
  case round =>
   clear hB8;obtain⟨i,m,hi,hm,rfl,rfl,hBr,hm0,hcn⟩:=hrel;have hGr:G≤wr.heap.size:=by have:=hBr.size;rw[HG.out]at this;exact this
   have hBw:Below H w wr:=hB.trans (hBr.mono (by omega));have r5:wr.cell? ⟨H,5,none⟩=some (.slice p N cap):=(hBr.cell (p:=⟨H,5,none⟩) (by show H<G;omega)).trans (by simp[World.cell?,hnew]);by_cases hlt:i<N
   ·have t0:decide ((i:Int)<(N:Int))=true:=by simp;omega
    by_cases h5:0<n
    ·have t1:decide ((0:Int)<(n:Int))=true:=by simp;omega
     obtain⟨g,off,rfl,hg,ds,hv,hcl⟩:=H9.out i hlt;obtain⟨qn,qi,rfl⟩:=ValAt.form hv;have x0:wr.cell? ⟨g,off+i*6,none⟩=some (.int .i64 (its.getD i noVT).kind):=(hBw.cell (p:=⟨g,off+i*6+0,none⟩) hg).trans (hcl 0 (by decide));have x1:wr.cell? ⟨g,off+i*6+1,none⟩=some (.int .i64 (its.getD i noVT).num):=(hBw.cell (p:=⟨g,off+i*6+1,none⟩) hg).trans (hcl 1 (by decide));have x2:wr.cell? ⟨g,off+i*6+2,none⟩=some (.float .f64 (its.getD i noVT).flt):=(hBw.cell (p:=⟨g,off+i*6+2,none⟩) hg).trans (hcl 2 (by decide));have x3:wr.cell? ⟨g,off+i*6+3,none⟩=some (.string ⟨(its.getD i noVT).str.toArray⟩):=(hBw.cell (p:=⟨g,off+i*6+3,none⟩) hg).trans (hcl 3 (by decide));have x4:wr.cell? ⟨g,off+i*6+4,none⟩=some (qn):=(hBw.cell (p:=⟨g,off+i*6+4,none⟩) hg).trans (hcl 4 (by decide));have x5:wr.cell? ⟨g,off+i*6+5,none⟩=some (qi):=(hBw.cell (p:=⟨g,off+i*6+5,none⟩) hg).trans (hcl 5 (by decide));have hv2:=ValAt.kept (w':=wr) (by rw[HH.out];exact hBw) d _ _ hv;have HC:=zh (ih.out _ _ (n - 1) wr hv2 (by omega));have hdn:=depthL_drop (l:=its) (i:=i) (m:=n - 1) (by rw[HN.out];exact hlt);have HD:=zh hdn;have hle:=depthV_le (its.getD i noVT) (n - 1);generalize its.getD i noVT=k at *;generalize depthV k (n - 1)=m2 at *;have b1:(0:Int)≤(i:Int):=by omega
     have b2:(i:Int)<(N:Int):=by omega
     have hn1:((n - 1:Nat):Int)=(n:Int) - 1:=by omega
     rw[hn1]at HC;have hmx:max (m:Int) (m2:Int)=((max m m2:Nat):Int):=by omega
     clear hdn hcl hv hv2 hn1;go_wp2_with fail
     refine(HC.out).mono ?_;rintro e w5 ⟨rfl,hb5⟩;have hB6:=hBr.trans (hb5.mono hGr);go_wp2_with fail
     go_roundw
     case rel=>exact⟨i+1,max m m2,by omega,by omega,rfl,by go_num,hB6,fun h=>absurd h (by omega),fun h=>by rw[hcn.out h,HD.out,Nat.max_assoc]⟩
     case measure=>simp[intOf];omega
    ·have t1:decide ((0:Int)<(n:Int))=false:=by simp;omega
     have hn0:n=0:=by omega
     have HF:=zh (show depthV v n=m+1 from by rw[HCV.out,if_pos hn0,hm0 hn0]);clear hn0;go_wp2_with fail
     go_ret;exact⟨ret_val (by rw[HF.out];rfl),by rw[HH.out];exact hBw⟩
   ·have t0:decide ((i:Int)<(N:Int))=false:=by simp;omega
    have HF:=zh (show depthV v n=m+1 from by
     rw[HCV.out];by_cases h0:n=0
     ·rw[if_pos h0,hm0 h0]
     ·rw[if_neg h0,hcn.out h0,List.drop_eq_nil_of_le (by rw[HN.out];omega),depthL,Nat.max_zero])
    go_wp2_with fail
    go_ret;exact⟨ret_val (by rw[HF.out];rfl),by rw[HH.out];exact hBw⟩
end
section
open Go.RowKit
def smallB (v:VT):Bool:=decide (depthV v 40≤30)&&decide (countV v 0<500)
theorem rsmall_any (d:Nat) (v:VT) (cs:Array Value) (w:World) (h:ValAt w d v cs) :
  Calls Tryz.prog 17 #[.agg cs] w fun e w'=>e=.returned (.bool (smallB v))∧Below w.heap.size w w':=by
 obtain⟨pn,pi,rfl⟩:=ValAt.form h;have hB:Below w.heap.size w (w.alloc (.cells #[.int .i64 v.kind,.int .i64 v.num,.float .f64 v.flt,.string ⟨v.str.toArray⟩,pn,pi] 26)):=(Below.refl _ _).alloc (Nat.le_refl _) _;have h2:=ValAt.kept hB d _ _ h;have HD:=zh (rdepth_any d v _ 40 _ h2 (by omega));have HP:=zh (fun w2 k=>rparts_any d v _ w2 (ValAt.kept k d _ _ h2));have hs:=smallB.eq_def v;have hnew:(w.alloc (.cells #[.int .i64 v.kind,.int .i64 v.num,.float .f64 v.flt,.string ⟨v.str.toArray⟩,pn,pi] 26)).heap[w.heap.size]?=some (.cells #[.int .i64 v.kind,.int .i64 v.num,.float .f64 v.flt,.string ⟨v.str.toArray⟩,pn,pi] 26 (0,0)):=heap_alloc_new w _;have hW0:w.heap.size<(w.alloc (.cells #[.int .i64 v.kind,.int .i64 v.num,.float .f64 v.flt,.string ⟨v.str.toArray⟩,pn,pi] 26)).heap.size:=by simp
 have HS:=zh hs;clear hs h2;generalize depthV v 40=a at *;generalize countV v 0=b at *;by_cases ha:a≤30
 ·have t1:decide ((a:Int)≤30)=true:=by simp;omega
  have HA:=zh ha;go_in;go_wp2_with fail
  refine(HD.out).mono ?_;rintro e w2 ⟨rfl,k2⟩;generalize w.alloc (.cells #[.int .i64 v.kind,.int .i64 v.num,.float .f64 v.flt,.string ⟨v.str.toArray⟩,pn,pi] 26)=W0 at *;have hc:∀ j,w2.cell? ⟨w.heap.size,j,none⟩=(#[.int .i64 v.kind,.int .i64 v.num,.float .f64 v.flt,.string ⟨v.str.toArray⟩,pn,pi]:Array Value)[j]?:=fun j=>(k2.cell (p:=⟨w.heap.size,j,none⟩) hW0).trans (by simp[World.cell?,hnew])
  have x0:=hc 0;have x1:=hc 1;have x2:=hc 2;have x3:=hc 3;have x4:=hc 4;have x5:=hc 5;clear hc;simp at x0 x1 x2 x3 x4 x5;by_cases hb:b<500
  ·have t2:decide ((b:Int)<500)=true:=by simp;omega
   have HB:=zh (show decide (b<500)=true from decide_eq_true hb);go_wp2_with fail
   refine(HP.out _ k2).mono ?_;rintro e w3 ⟨rfl,k3⟩;go_wp2_with fail
   go_ret;exact⟨ret_val (by rw[HS.out,decide_eq_true HA.out,HB.out];rfl),(hB.trans (k2.mono (by omega))).trans (k3.mono (by have:=k2.size;omega))⟩
  ·have t2:decide ((b:Int)<500)=false:=by simp;omega
   have HB:=zh (show decide (b<500)=false from decide_eq_false hb);go_wp2_with fail
   refine(HP.out _ k2).mono ?_;rintro e w3 ⟨rfl,k3⟩;go_wp2_with fail
   go_ret;exact⟨ret_val (by rw[HS.out,decide_eq_true HA.out,HB.out];rfl),(hB.trans (k2.mono (by omega))).trans (k3.mono (by have:=k2.size;omega))⟩
 ·have t1:decide ((a:Int)≤30)=false:=by simp;omega
  have HA:=zh ha;go_in;go_wp2_with fail
  refine(HD.out).mono ?_;rintro e w2 ⟨rfl,k2⟩;go_wp2_with fail
  go_ret;exact⟨ret_val (by rw[HS.out,decide_eq_false HA.out];rfl),hB.trans (k2.mono (by omega))⟩
end
section
open Go.RowKit
theorem rzeroV_any (d:Nat) (v:VT) (cs:Array Value) (w:World) (h:ValAt w d v cs) :
  Calls Tryz.prog 135 #[.agg cs] w fun e w'=>e=.returned (.bool (zeroB v.flt))∧Below w.heap.size w w':=by
 obtain⟨pn,pi,rfl⟩:=ValAt.form h;have hB:Below w.heap.size w (w.alloc (.cells #[.int .i64 v.kind,.int .i64 v.num,.float .f64 v.flt,.string ⟨v.str.toArray⟩,pn,pi] 26)):=(Below.refl _ _).alloc (Nat.le_refl _) _;have hs:=rsame_any v.flt 0;rw[show canon 0=0 from rfl]at hs;have HS:=zh hs;clear hs;go_in;go_wp2_with fail
 refine(HS.out _).mono ?_;rintro e w2 ⟨rfl,rfl⟩;go_wp2_with fail
 go_ret;exact⟨rfl,hB⟩
end
section
open Go.RowKit
theorem u8_beqV (c:UInt8) (n:UInt8):(c==n)=((c.toNat:Int)==(n.toNat:Int)):=by
 rw[Bool.eq_iff_iff,beq_iff_eq,beq_iff_eq,←UInt8.toNat_inj];omega
/-- so far it may be a name -/
def NmTo (l:List UInt8) (k:Nat):Prop:=(k=0∨isLet (l.getD 0 0)=true)∧(l.take k).all isNm=true
theorem NmTo.zero (l:List UInt8):NmTo l 0:=⟨.inl rfl,rfl⟩
theorem NmTo.step {l:List UInt8} {k:Nat} (h:NmTo l k) (hk:k<l.length) (hn:isNm (l.getD k 0)=true) (h0:k≠0∨isLet (l.getD k 0)=true):NmTo l (k+1):=by
 have e:l.getD k 0=l[k]:=by simp[List.getD,hk]
 refine⟨.inr ?_,?_⟩
 ·rcases Nat.eq_zero_or_pos k with rfl|hp
  ·rcases h0 with h0|h0
   ·exact absurd rfl h0
   ·exact h0
  ·rcases h.1 with h1|h1
   ·omega
   ·exact h1
 ·rw[List.take_succ_eq_append_getElem hk,List.all_append,h.2,←e,List.all_cons,hn];rfl
theorem NmTo.whole {l:List UInt8} (h:NmTo l l.length) (h1:1≤l.length) (h2:l.length≤30):nmB l=true:=by
 unfold nmB;have h3:=h.2;rw[List.take_length]at h3;rcases h.1 with h0|h0
 ·omega
 ·rw[h0,h3,decide_eq_true (show 1≤l.length∧l.length≤30 from⟨h1,h2⟩)];rfl
theorem nmB_no {l:List UInt8} {k:Nat} (hk:k<l.length) (hn:isNm (l.getD k 0)=false):nmB l=false:=by
 have e:l.getD k 0=l[k]:=by simp[List.getD,hk]
 have:l.all isNm=false:=by
  rw[←Bool.not_eq_true,List.all_eq_true];intro h;have:=h _ (List.getElem_mem hk);rw[←e,hn]at this;cases this
 unfold nmB;rw[this,Bool.and_false]
theorem nmB_no0 {l:List UInt8} (hn:isLet (l.getD 0 0)=false):nmB l=false:=by
 unfold nmB;rw[hn,Bool.and_false,Bool.false_and]
theorem nmB_short {l:List UInt8} (h:¬ (1≤l.length∧l.length≤30)):nmB l=false:=by
 unfold nmB;rw[decide_eq_false h,Bool.false_and,Bool.false_and]
theorem rname4_any (s:ByteArray) (w:World):Calls Tryz.prog 58 #[.string s] w fun e w'=>e=.returned (.bool (nmB s.data.toList))∧w=w':=by
 have hl:s.data.toList.length=s.size:=by simp
 have HL:=zh hl;clear hl;by_cases h1:s.size<1
 ·have t1:decide ((s.size:Int)<1)=true:=by simp;omega
  have HX:=zh (nmB_short (l:=s.data.toList) (by rw[HL.out];omega));go_in;go_wp2_with fail
  go_ret;exact⟨ret_val (by rw[HX.out];rfl),rfl⟩
 ·have t1:decide ((s.size:Int)<1)=false:=by simp;omega
  by_cases h2:30<s.size
  ·have t2:decide ((30:Int)<(s.size:Int))=true:=by simp;omega
   have HX:=zh (nmB_short (l:=s.data.toList) (by rw[HL.out];omega));go_in;go_wp2_with fail
   go_ret;exact⟨ret_val (by rw[HX.out];rfl),rfl⟩
  ·have t2:decide ((30:Int)<(s.size:Int))=false:=by simp;omega
   have t2':¬ 30<s.size:=h2;go_in;go_wp2_with fail
   go_loop [3] (fun kv=>∃ k:Nat,k≤s.size∧kv=.int .i64 k∧NmTo s.data.toList k) (fun kv=>s.size - (intOf kv).toNat)
   case atStart=>exact⟨0,Nat.zero_le _,rfl,NmTo.zero _⟩
   case round =>
    obtain⟨k,hk,rfl,hnm⟩:=hrel;by_cases hlt:k<s.size
    ·have t0:decide ((k:Int)<(s.size:Int))=true:=by simp;omega
     have hg0:s.data.toList.getD k 0=s[k]'hlt:=by simp[List.getD,hlt];rfl
     have HStep:=zh (fun hn h0=>hnm.step (by rw[HL.out];exact hlt) hn h0);have HNo:=zh (fun hn=>nmB_no (l:=s.data.toList) (k:=k) (by rw[HL.out];exact hlt) hn);rw[hg0]at HStep HNo;have hN0:isLet (s[k]'hlt)=false→k=0→nmB s.data.toList=false:=by
      intro h hk0;refine nmB_no0 ?_;rw[←hg0]at h;rw[hk0]at h;exact h
     have HNo0:=zh hN0;clear hnm hg0 hN0;have hLt:isLet (s[k]'hlt)=(decide ((97:Int)≤((s[k]'hlt).toNat:Int))&&decide (((s[k]'hlt).toNat:Int)≤122)):=by
      unfold isLet;rw[Bool.eq_iff_iff];simp;omega
     have hDg:isDig (s[k]'hlt)=(decide ((48:Int)≤((s[k]'hlt).toNat:Int))&&decide (((s[k]'hlt).toNat:Int)≤57)):=by
      show decide (48≤(s[k]'hlt).toNat∧(s[k]'hlt).toNat≤57)=_;rw[Bool.eq_iff_iff];simp;omega
     have hNm:isNm (s[k]'hlt)=(isLet (s[k]'hlt)||isDig (s[k]'hlt)||((s[k]'hlt).toNat:Int)==95):=by unfold isNm;rw[u8_beqV (s[k]'hlt) 95];rfl
     rw[hLt,hDg]at hNm;have HNm:=zh hNm;have HLt:=zh hLt;clear hNm hLt hDg;cases a1:decide ((97:Int)≤((s[k]'hlt).toNat:Int))<;>cases a2:decide (((s[k]'hlt).toNat:Int)≤122)
     case true.true =>
      rw[a1,a2]at HLt HNm;have HY:=zh (HStep.out (by rw[HNm.out];rfl) (.inr (by rw[HLt.out];rfl)));go_wp2_with fail
      go_round
      case rel=>exact⟨k+1,by omega,by go_num,HY.out⟩
      case measure=>simp[intOf];omega
     all_goals
      rw[a1,a2]at HLt HNm;by_cases hk0:k=0
      ·have HX:=zh (HNo0.out (by rw[HLt.out];rfl) hk0);have tk:((k:Int)==0)=true:=by rw[hk0];rfl
       clear hk0;go_wp2_with fail
       go_ret;exact⟨ret_val (by rw[HX.out];rfl),rfl⟩
      ·have tk:((k:Int)==0)=false:=by rw[beq_eq_false_iff_ne];omega
       cases a3:decide ((48:Int)≤((s[k]'hlt).toNat:Int))<;>cases a4:decide (((s[k]'hlt).toNat:Int)≤57)
       case neg.true.true =>
        rw[a3,a4]at HNm;have HY:=zh (HStep.out (by rw[HNm.out];rfl) (.inl hk0));go_wp2_with fail
        go_round
        case rel=>exact⟨k+1,by omega,by go_num,HY.out⟩
        case measure=>simp[intOf];omega
       all_goals
        rw[a3,a4]at HNm;cases a5:(((s[k]'hlt).toNat:Int)==95)
        ·have a6:(((s[k]'hlt).toNat:Int) != 95)=true:=by rw[bne,a5];rfl
         rw[a5]at HNm;have HX:=zh (HNo.out (by rw[HNm.out];rfl));go_wp2_with fail
         go_ret;exact⟨ret_val (by rw[HX.out];rfl),rfl⟩
        ·have a6:(((s[k]'hlt).toNat:Int) != 95)=false:=by rw[bne,a5];rfl
         rw[a5]at HNm;have HY:=zh (HStep.out (by rw[HNm.out];rfl) (.inl hk0));go_wp2_with fail
         go_round
         case rel=>exact⟨k+1,by omega,by go_num,HY.out⟩
         case measure=>simp[intOf];omega
    ·have t0:decide ((k:Int)<(s.size:Int))=false:=by simp;omega
     have hks:k=s.size:=by omega
     have t0':¬ k<s.size:=hlt;rw[hks,←HL.out]at hnm;have HX:=zh (hnm.whole (by rw[HL.out];omega) (by rw[HL.out];omega));clear hks hnm;go_wp2_with fail
     go_ret;exact⟨ret_val (by rw[HX.out];rfl),rfl⟩
end
section
open Go
def okAt (l:List (List UInt8)) (i:Nat):Bool:=nmB (l.getD i [])&&(decide (i=0)||Op.bytesLess (l.getD (i - 1) []) (l.getD i []))
theorem rises_iff:∀ l:List (List UInt8),risesB l=true↔∀ i,i<l.length→okAt l i=true
 | []=>by simp[risesB]
 | [a]=>by
  constructor
  ·intro h i hi;have:i=0:=by simp at hi;exact hi
   subst this;simpa [okAt,risesB] using h
  ·intro h;have:=h 0 (by simp);simpa [okAt,risesB] using this
 | a::b::l=>by
  have ih:=rises_iff (b::l);rw[risesB,Bool.and_eq_true,Bool.and_eq_true,ih];constructor
  ·rintro⟨⟨h1,h2⟩,h3⟩ i hi;match i with
   | 0=>simp[okAt,h1]
   | 1 =>
    have:=h3 0 (by simp);simp[okAt]at this ⊢
    exact⟨this,h2⟩
   | i+2 =>
    have:=h3 (i+1) (by simp at hi ⊢;omega)
    simpa [okAt] using this
  ·intro h;refine⟨⟨?_,?_⟩,?_⟩
   ·have:=h 0 (by simp);simp[okAt]at this;exact this
   ·have:=h 1 (by simp);simp[okAt]at this;exact this.2
   ·intro i hi;match i with
    | 0 =>
     have:=h 1 (by simp);simp[okAt]at this ⊢
     exact this.1
    | i+1 =>
     have:=h (i+2) (by simp at hi ⊢;omega)
     simpa [okAt] using this
end
section
open Go.RowKit
def namesB (l:List (List UInt8)) (n:Int):Bool:=risesB l&&decide ((l.length:Int)=n)
theorem rises_no {l:List (List UInt8)} {i:Nat} (hi:i<l.length) (h:okAt l i=false):risesB l=false:=by
 rw[←Bool.not_eq_true,rises_iff];intro g;rw[g i hi]at h;cases h
theorem rnames_any (l:List (List UInt8)) (v:Value) (n:Int) (w:World) (h:Strs w l v) :
  Calls Tryz.prog 136 #[v,.int .i64 n] w fun e w'=>e=.returned (.bool (namesB l n))∧∃ q,w'=w.drewN q:=by
 obtain⟨h1,h2,h3⟩:=h;have h3':∃ p cap,v=.slice p l.length cap∧∀ i,i<l.length→∃ g off,p=some ⟨g,off,none⟩∧∀ j,j<l.length→w.cell? ⟨g,off+j,none⟩=some (.string ⟨(l.getD j []).toArray⟩):=by
  rcases h3 with ⟨h3,p,c,hp⟩|⟨g,off,cap,hp,hg,hc⟩
  ·subst h3;exact⟨p,c,hp,fun i hi=>absurd hi (by simp)⟩
  ·exact⟨_,cap,hp,fun i hi=>⟨g,off,rfl,hc⟩⟩
 obtain⟨p,cap,rfl,h4⟩:=h3';have H4:=zh h4;clear h3 h4 h2;have HS:=zh (namesB.eq_def l n);have HNo:=zh (fun i hi hk=>rises_no (l:=l) (i:=i) hi hk);generalize hN:l.length=N at *;have HN:=zh hN;clear hN;go_in;go_wp2_with fail
 go_loopw [5] (fun iv wr=>∃ i q:Nat,i≤N∧iv=.int .i64 i∧Hid (wr=w.drewN q)∧Hid (∀ j,j<i→okAt l j=true)) (fun iv _=>N - (intOf iv).toNat)
 case atStart=>exact⟨0,0,by omega,rfl,rfl,fun j hj=>absurd hj (by omega)⟩
 case round =>
  obtain⟨i,q,hi,rfl,hw,hall⟩:=hrel;by_cases hlt:i<N
  ·have t0:decide ((i:Int)<(N:Int))=true:=by simp;omega
   obtain⟨g,off,rfl,hc⟩:=H4.out i hlt;have x1:wr.cell? ⟨g,off+i,none⟩=some (.string ⟨(l.getD i []).toArray⟩):=by rw[hw.out];exact hc i hlt
   have x2:wr.cell? ⟨g,off+(i - 1),none⟩=some (.string ⟨(l.getD (i - 1) []).toArray⟩):=by rw[hw.out];exact hc (i - 1) (by omega)
   have hnm:=rname4_any ⟨(l.getD i []).toArray⟩;rw[show(⟨(l.getD i []).toArray⟩:ByteArray).data.toList=l.getD i [] from rfl]at hnm;have HNm:=zh hnm;have HOk:=zh (okAt.eq_def l i);have b1:(0:Int)≤(i:Int):=by omega
   have b2:(i:Int)<(N:Int):=by omega
   clear hc hnm;have HAll:=zh (fun(h:okAt l i=true) j (hj:j<i+1)=>(show okAt l j=true from by
    rcases Nat.lt_or_ge j i with g|g
    ·exact hall.out j g
    ·rw[show j=i by omega];exact h))
   have HNi:=zh (HNo.out i hlt);generalize hA:l.getD i []=A at *;generalize hB:l.getD (i - 1) []=B at *;clear hA hB;cases hb:nmB A
   ·rw[hb]at HNm HOk;have HX:=zh (HNi.out (by rw[HOk.out];rfl));go_wp2_with fail
    go_quiet (refine Calls.quiet_of_same ((HNm.out _).mono fun _ _ h=>⟨h.1,h.2.symm⟩))
    go_wp2_with fail
    go_ret;exact⟨ret_val (by rw[HS.out,HX.out];rfl),q+nq,by rw[hw.out];simp⟩
   ·rw[hb]at HNm HOk;by_cases hi0:i=0
    ·have t1:decide ((0:Int)<(i:Int))=false:=by simp;omega
     have t1':¬ 0<i:=by omega
     have t1n:decide (0<i)=false:=by simp;omega
     have HY:=zh (HAll.out (by rw[HOk.out,decide_eq_true hi0];rfl));clear hi0;go_wp2_with fail
     go_quiet (refine Calls.quiet_of_same ((HNm.out _).mono fun _ _ h=>⟨h.1,h.2.symm⟩))
     go_wp2_with fail
     go_roundw
     case rel=>exact⟨i+1,q+nq,by omega,by go_num,by show _=_;rw[hw.out];simp,HY.out⟩
     case measure=>simp[intOf];omega
    ·have t1:decide ((0:Int)<(i:Int))=true:=by simp;omega
     have t1p:0<i:=by omega
     have t1n:decide (0<i)=true:=by simp;omega
     have w1:IntKind.i64.wrap ((i:Int) - 1)=((i - 1:Nat):Int):=by rw[IntKind.wrap_i64];omega
     have w2:(0:Int)≤((i - 1:Nat):Int):=by omega
     have w3:((i - 1:Nat):Int)<(N:Int):=by omega
     have HI:=zh (decide_eq_false hi0);clear hi0;cases hl:Op.bytesLess B A
     ·have HX:=zh (HNi.out (by rw[HOk.out,HI.out,hl];rfl));go_wp2_with fail
      go_quiet (refine Calls.quiet_of_same ((HNm.out _).mono fun _ _ h=>⟨h.1,h.2.symm⟩))
      go_wp2_with fail
      go_ret;exact⟨ret_val (by rw[HS.out,HX.out];rfl),q+nq,by rw[hw.out];simp⟩
     ·have HY:=zh (HAll.out (by rw[HOk.out,HI.out,hl];rfl));go_wp2_with fail
      go_quiet (refine Calls.quiet_of_same ((HNm.out _).mono fun _ _ h=>⟨h.1,h.2.symm⟩))
      go_wp2_with fail
      go_roundw
      case rel=>exact⟨i+1,q+nq,by omega,by go_num,by show _=_;rw[hw.out];simp,HY.out⟩
      case measure=>simp[intOf];omega
  ·have t0:decide ((i:Int)<(N:Int))=false:=by simp;omega
   have hr:risesB l=true:=(rises_iff l).2 (fun j hj=>hall.out j (by rw[HN.out]at hj;omega));have HR:=zh hr;clear hr;by_cases hn:(N:Int)=n
   ·have t2:((N:Int)==n)=true:=by rw[hn];exact beq_self_eq_true _
    have HD:=zh hn;clear hn;go_wp2_with fail
    go_ret;exact⟨ret_val (by rw[HS.out,HR.out,decide_eq_true HD.out];rfl),q,hw.out⟩
   ·have t2:((N:Int)==n)=false:=by rw[beq_eq_false_iff_ne];exact hn
    have HD:=zh hn;clear hn;go_wp2_with fail
    go_ret;exact⟨ret_val (by rw[HS.out,HR.out,decide_eq_false HD.out];rfl),q,hw.out⟩
end
section
open Go.RowKit
/-- what a call hands back that makes memory of its own alone -/
def Gives (v:Value) (w:World) (e:Ending) (w':World):Prop:=e=.returned v∧Below w.heap.size w w'
end
end Go.Proofs.YtaaaaggmhjhkkaaGreatDoor
