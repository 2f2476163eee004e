/-
  Td, Ke, Kf, Te, Tf, E6 in one text.
-/
import Derived.Deep.Onto
import Derived.Test.YtaaaaggmhjhkkaaGreatDoorS19
import Derived.Test.YtaaaaggmhjhkkaaGreatDoorCl
set_option maxRecDepth 100000
set_option maxHeartbeats 8000000
namespace Go.Proofs.YtaaaaggmhjhkkaaGreatDoor
section
open Go.RowKit
theorem inL_of:∀ {l:List VT},(∀ i,i<l.length→inV (l.getD i noVT))→inL l
 | [],_=>trivial
 | x::xs,h=>by
  rw[inL];exact⟨h 0 (by simp),inL_of fun i hi=>h (i+1) (by simpa using hi)⟩
theorem ValAt.inV {w:World}:∀ {d:Nat} {v:VT} {cs:Array Value},ValAt w d v cs→inV v
 | 0,_,_,h=>h.elim
 | d+1,v,cs,h=>by
  obtain⟨pn,pi,h1,h2,h3,h4,h5,h6,h7,h8⟩:=h;obtain⟨k,n,f,s,ns,its⟩:=v;rw[Go.Proofs.YtaaaaggmhjhkkaaGreatDoor.inV];refine⟨h2,h3,h4,inL_of fun i hi=>?_⟩;rcases h8 with ⟨h8,_⟩|⟨g,off,cap,a1,a2,a3⟩
  ·have h8:its=[]:=h8;rw[h8]at hi;simp at hi
  ·obtain⟨ds,b1,_⟩:=a3 i hi;exact b1.inV
theorem inEL_of:∀ {l:List ET},(∀ i,i<l.length→inE (l.getD i noET))→inEL l
 | [],_=>trivial
 | x::xs,h=>by
  rw[inEL];exact⟨h 0 (by simp),inEL_of fun i hi=>h (i+1) (by simpa using hi)⟩
theorem ExIn.inE {S:Nat→Prop} {w:World}:∀ {d:Nat} {x:ET} {cs:Array Value},ExIn S w d x cs→inE x
 | 0,_,_,h=>h.elim
 | d+1,x,cs,h=>by
  obtain⟨qn,qi,pn,pk,h1,h2,h3,⟨dv,h4⟩,h5,h6,h7⟩:=h;obtain⟨k,s,v,ns,ks⟩:=x;rw[Go.Proofs.YtaaaaggmhjhkkaaGreatDoor.inE];refine⟨h4.at.inV,inEL_of fun i hi=>?_⟩;rcases h7 with ⟨h7,_⟩|⟨g,off,cap,a1,a2,a3⟩
  ·have h7:ks=[]:=h7;rw[h7]at hi;simp at hi
  ·obtain⟨ds,b1,_⟩:=a3 i hi;exact b1.inE
/-- a text, or none -/
def textR (x:ET):Value:=if rightEx x then .tuple #[.string ⟨(textE x).toArray⟩,.int .i64 0] else .tuple #[.string ⟨#[]⟩,.int .i64 5]
theorem pText_any (d:Nat) (x:ET) (cs:Array Value) (w:World) (hE:Env w) (h:ExAt' w d x cs):Calls Tryz.prog 9 #[.agg cs] w (Gives (textR x) w):=by
 have hin:=h.inE;have hB:Below w.heap.size w (w.alloc (.cells cs 29)):=(Below.refl _ _).alloc (Nat.le_refl _) _;have hp:=h.box hB (heap_alloc_new w _);have hnew:=heap_alloc_new w (.cells cs 29);have HP:=pRight_any d x cs _ (h.below hB);have hR:=textR.eq_1 x;have hEW:=hE.below hB;obtain⟨na,nl,nc,ia,il,ic,ma,ml,mc,ka,kl,kc,rfl⟩:=h.ten;clear h hE;generalize hW:w.alloc _=W at *;have HW:=zh hW;clear hW;have c0:=zc hnew 0;have c1:=zc hnew 1;have c2:=zc hnew 2;have c3:=zc hnew 3;have c4:=zc hnew 4;have c5:=zc hnew 5;have c6:=zc hnew 6;have c7:=zc hnew 7;have c8:=zc hnew 8;have c9:=zc hnew 9;simp only[List.getElem?_toArray,List.getElem?_cons_zero,List.getElem?_cons_succ]at c0 c1 c2 c3 c4 c5 c6 c7 c8 c9;clear hnew;cases hr:rightEx x
 ·rw[hr]at HP hR;have HP:=zh HP;have HR:=zh hR;clear hR hp hEW hin;go_in;go_wp2_with fail
  rw[HW.out];go_wp2_with fail
  refine(HP.out).mono ?_;rintro e w2 ⟨rfl,hb2⟩;go_wp2_with fail
  go_ret2;exact⟨ret_val (by rw[HR.out]<;>rfl),hB.trans (hb2.mono hB.size)⟩
 ·rw[hr]at HP hR;have HP:=zh HP;have HR:=zh hR;have hsh:=text_short hr hin;have hr12:rightE x 12=true:=by
   unfold rightEx at hr;rw[Bool.and_eq_true]at hr;exact hr.2
  clear hR hin hr;go_in;go_wp2_with fail
  rw[HW.out];go_wp2_with fail
  refine(HP.out).mono ?_;rintro e w2 ⟨rfl,hb2⟩;have hbA:Below W.heap.size W (w2.alloc (.cells #[.pointer none,.slice none 0 0] 54)):=hb2.alloc hb2.size _;have HV:=zh (pexpr_all d x 12 w.heap.size 0 w2.heap.size w2.heap.size [] W _ (by rw[List.length_nil];omega) hb2.size hbA hEW (Bld.fresh _ w2) hp hr12);have hbB:=hB.trans (hb2.mono hB.size);have hA2:Below w2.heap.size w2 (w2.alloc (.cells #[.pointer none,.slice none 0 0] 54)):=(Below.refl _ _).alloc (Nat.le_refl _) _;clear c0 c1 c2 c3 c4 c5 c6 c7 c8 c9 hp hEW hbA hsh hr12;go_wp2_with fail
  refine(HV.out).mono ?_;rintro e w3 ⟨rfl,hd3,hw3⟩;have HX:=zh (hd3.text bt_pp);have hb3:=hbB.trans ((hA2.trans hw3.1).mono hbB.size);clear hd3;go_wp2_with fail
  refine(HX.out).mono ?_;rintro e w4 ⟨rfl,hb4⟩;go_wp2_with fail
  go_ret2;exact⟨ret_val (by rw[HR.out]<;>rfl),hb3.trans (hb4.mono hbB.size)⟩
end
section
open Go.RowKit
/-- the cells of a list of tokens -/
def rowsOf (l:List Tk):List Value:=l.flatMap fun k=>(tokCells k).toList
theorem rowsOf_snoc (l:List Tk) (k:Tk):rowsOf (l++[k])=rowsOf l++(tokCells k).toList:=by simp[rowsOf]
/-- a list of tokens in memory of the call's own -/
def Toks (B:Nat) (v:Value) (l:List Tk) (w:World):Prop:=w.ownsRow B 98 6 v l.length (rowsOf l)
theorem Toks.apart {B b:Nat} {v:Value} {l:List Tk} {s:ByteArray} {a:Nat} {w:World} (h:Toks B v l w) (hx:LexAt b s a w):v.ownBlock≠some b:=by
 rcases h.2 with ⟨rfl,_⟩|⟨g,cap,cur,rfl,_,hg,_⟩
 ·intro e;cases e
 ·intro e;simp only[Value.ownBlock,Option.some.injEq]at e;subst e;rw[hx]at hg;simp only[Option.some.injEq,Obj.cells.injEq]at hg;exact absurd hg.2.1 (by decide)
theorem Toks.kept {B b:Nat} {v:Value} {l:List Tk} {s:ByteArray} {a:Nat} {w w':World} (h:Toks B v l w) (hx:LexAt b s a w) (hf:Fr [b] w w'):Toks B v l w' :=
 World.ownsRow.kept (row:=some b) h ⟨hf.os,hf.tape,hf.output,hf.size,fun k hk hn=>hf.block k hk (by simp at hn ⊢;omega)⟩ (.inr (h.apart hx))
theorem news_tok {k:Tk} {w:World} {g:Nat} (h:TokAt g k w):∀ j u,(tokCells k).toList[j]?=some u→w.cell? ((⟨g,0,none⟩:Addr).add j)=some u:=by
 intro j u hj;have:=h.cell j;rw[Array.getElem?_toList]at hj;rw[←hj,←this];congr 1
 unfold Addr.add;split<;>simp_all
theorem tok_one (k:Tk):∀ u ∈ (tokCells k).toList,u.oneCell'=true:=by
 intro u hu;simp[tokCells]at hu;rcases hu with rfl|rfl|rfl|rfl|rfl|rfl<;>rfl
theorem Toks.alloc {B:Nat} {v:Value} {l:List Tk} {w:World} (h:Toks B v l w) (o:Obj):Toks B v l (w.alloc o):=World.ownsRow.alloc h o
/-- what lex.All leaves -/
def AllRes (q:List Tk × Nat × Int) (w:World) (e:Ending) (w':World):Prop :=
 ∃ v,e=.returned (.tuple #[v,.int .i64 q.2.1,.int .i64 q.2.2])∧Below w.heap.size w w'∧Toks w.heap.size v q.1 w'
theorem all_any (s:ByteArray) (w:World) (hE:Env w):Calls Tryz.prog 30 #[.string s] w (AllRes (tokens s.data.toList) w):=by
 have hst:=store_float;have hl:s.data.toList.length=s.size:=by simp
 have HL:=zh hl;have hR:=tokens.eq_def s.data.toList;rw[hl]at hR;clear hl;by_cases h0:2000<s.size
 ·rw[if_pos h0]at hR;have HR:=zh hR;clear hR;have t3:decide ((2000:Int)<(s.size:Int))=true:=by simp;omega
  go_in;go_wp2_with fail
  go_ret3;rw[HR.out];exact⟨_,rfl,Below.refl _ _,World.ownsRow_nil _ _ _ _⟩
 ·rw[if_neg h0]at hR;have HR:=zh hR;clear hR;have t3:decide ((2000:Int)<(s.size:Int))=false:=by simp;omega
  have hs:s.size≤2000:=by omega
  have HI:(Tryz.prog.info? 98).map (fun i=>(i.zero,i.size,i.bytes))=some (some (.agg (tokCells noTk)),6,56):=by kernel_rfl
  obtain⟨i0,hi,hz0,hz1,hz2⟩:=Go.info_parts HI;have HII:=zh hi;have HZ0:=zh hz0;have HZ1:=zh hz1;have HZ2:=zh hz2;clear hi hz0 hz1 hz2 HI h0;have hB:Below w.heap.size w (w.alloc (.cells #[.string s,.int .i64 0] 96)):=(Below.refl _ _).alloc (Nat.le_refl _) _;have hlx:LexAt w.heap.size s 0 (w.alloc (.cells #[.string s,.int .i64 0] 96)):=heap_alloc_new w _;have HE:=zh (EnvB.of hE);have hT:Toks w.heap.size (.slice none 0 0) [] (w.alloc (.cells #[.string s,.int .i64 0] 96)):=World.ownsRow_nil _ _ _ _;have HT:=zh (fun(i:Nat) (hi:i≤s.size) (b B:Nat) (w0:World) (h1:B≤b) (h2:LexAt b s i w0) (h3:EnvB B w0)=>token_any s (by omega) i b B hi h1 w0 h2 h3);go_in;go_wp2_with fail
  generalize w.alloc (.cells #[.string s,.int .i64 0] 96)=W0 at *;generalize hgh:w.heap.size=H at *;have HH:=zh hgh;clear hgh;go_loopw [2] (fun v wr=>∃ (k f:Nat) (o:List Tk),k≤s.size∧s.size<f+k∧o.length≤k∧LexAt H s k wr∧Below H w wr∧Toks H v o wr∧Hid (tokens s.data.toList=preT o (allS s.data.toList f k))) (fun _ wr=>match wr.cell? ⟨H,1,none⟩ with|some v=>s.size - (intOf v).toNat|none=>0)
  case atStart=>exact⟨0,s.size+1,[],by omega,by omega,by simp,hlx,hB,hT,by show _=_;rw[HR.out,preT_nil]⟩
  case round =>
   obtain⟨k0,f,o,hk0,hf,hok,hlx,hB,hT,hR⟩:=hrel;have L1:=zh hlx.c1;have hE1:EnvB H wr:=HE.out.below hB;have hsz:=hE1.1;obtain⟨f,rfl⟩:∃ g,f=g+1:=⟨f - 1,by omega⟩;have HC:=zh (fun h=>tok_cases (l:=s.data.toList) (b:=k0) (by rw[HL.out];exact hk0) h);have HG:=zh (fun h h1=>allS_go (l:=s.data.toList) (f:=f) (b:=k0) o h h1);have HQ:=zh (fun h h1=>allS_end (l:=s.data.toList) (f:=f) (b:=k0) h h1);have HX:=zh (fun h=>allS_err (l:=s.data.toList) (f:=f) (b:=k0) h);have HTk:=zh (HT.out k0 hk0);have hka:k0≤k0+far isBl s.data.toList k0:=Nat.le_add_right _ _;generalize k0+far isBl s.data.toList k0=a at *;generalize tokS s.data.toList k0=r at *;obtain⟨rk,re⟩:=r;dsimp only at HTk HC HG HQ HX;by_cases h0:re=0
   ·have t4:(re != 0)=false:=by rw[h0];rfl
    have HH0:=zh h0;clear h0;go_wp2_with fail
    refine(HTk.out H H wr (Nat.le_refl _) hlx hE1).mono ?_;rintro e w1 ⟨k,c,rfl,hp,hlx1,hc,hfr1,hk⟩;have HK:=zh (hk HH0.out);have hPo:=zh hp;clear hk hp;have hT1:=hT.kept hlx hfr1;have hB1:=hB.trans (hfr1.below (B:=H) hsz (by simp));have hHw:H≤w1.heap.size:=Nat.le_of_lt hlx1.lt;have hne:H≠w1.heap.size:=by have:=hlx1.lt;omega
    clear hlx hT hB hfr1;rw[tokCells_mk k];go_upto_region 5 with (fail)
    obtain⟨hk1,hk2⟩:=HK.out;have hC:=HC.out HH0.out;rw[HL.out]at hC;have hlx2:=hlx1.kept ((Fr.refl [] w1).alloc (.cells #[.int .i64 k.kind,.int .i64 k.pos,.int .i64 k.next,.int .i64 k.num,.float .f64 k.flt,.string ⟨k.str.toArray⟩] 98)) (by simp)
    have hB2:=hB1.alloc hHw (.cells #[.int .i64 k.kind,.int .i64 k.pos,.int .i64 k.next,.int .i64 k.num,.float .f64 k.flt,.string ⟨k.str.toArray⟩] 98)
    have hT2:=hT1.alloc (.cells #[.int .i64 k.kind,.int .i64 k.pos,.int .i64 k.next,.int .i64 k.num,.float .f64 k.flt,.string ⟨k.str.toArray⟩] 98)
    have hK2:TokAt w1.heap.size k (w1.alloc (.cells #[.int .i64 k.kind,.int .i64 k.pos,.int .i64 k.next,.int .i64 k.num,.float .f64 k.flt,.string ⟨k.str.toArray⟩] 98)):=heap_alloc_new w1 _
    rw[←hk1]at hk2;rcases hC with ⟨hc1,hc2⟩|⟨hc1,hc2⟩
    ·have hkk:k=⟨1,s.size,s.size,0,0,[]⟩:=by rw[hk1];exact congrArg Prod.fst hc2
     have t5:(k.kind==1)=true:=by rw[hkk];rfl
     have HF:=zh (HQ.out HH0.out (by rw[←hk1,hkk]));clear hkk hk1 hk2 hc1 hc2;generalize w1.alloc (.cells #[.int .i64 k.kind,.int .i64 k.pos,.int .i64 k.next,.int .i64 k.num,.float .f64 k.flt,.string ⟨k.str.toArray⟩] 98)=W2 at *
     generalize w1.heap.size=T at *;have z0:W2.cell? ⟨T,0,none⟩=some (.int .i64 k.kind):=hK2.cell 0;go_wp2_with fail
     go_ret3;rw[hR.out,HF.out,preT_end];exact⟨_,rfl,by rw[HH.out];exact hB2,by rw[HH.out];exact hT2⟩
    ·have t5:(k.kind==1)=false:=by rw[hk1];exact beq_eq_false_iff_ne.2 hc2.kind
     have hgo:=HG.out HH0.out hc2.kind;rw[←hk1]at hgo;have hn1:a<k.next:=by rw[hk1];exact hc2.lt
     have hn2:k.next≤s.size:=by have:=hc2.le;rw[HL.out,←hk1]at this;exact this
     have HF:=zh hgo;rw[hk2]at hlx2;clear hk1 hk2 hc1 hc2 hgo HK hT1 hB1 hlx1 hne;generalize w1.alloc (.cells #[.int .i64 k.kind,.int .i64 k.pos,.int .i64 k.next,.int .i64 k.num,.float .f64 k.flt,.string ⟨k.str.toArray⟩] 98)=W2 at *
     generalize w1.heap.size=T at *;have z0:W2.cell? ⟨T,0,none⟩=some (.int .i64 k.kind):=hK2.cell 0;have z1:W2.cell? ⟨T,1,none⟩=some (.int .i64 k.pos):=hK2.cell 1;have z2:W2.cell? ⟨T,2,none⟩=some (.int .i64 k.next):=hK2.cell 2
     have z3:W2.cell? ⟨T,3,none⟩=some (.int .i64 k.num):=hK2.cell 3;have z4:W2.cell? ⟨T,4,none⟩=some (.float .f64 k.flt):=hK2.cell 4;have z5:W2.cell? ⟨T,5,none⟩=some (.string ⟨k.str.toArray⟩):=hK2.cell 5;have HN:Hid (∀ j u,(tokCells k).toList[j]?=some u→(W2.alloc (.cells #[.int .i64 k.kind,.int .i64 k.pos,.int .i64 k.next,.int .i64 k.num,.float .f64 k.flt,.string ⟨k.str.toArray⟩] 98)).cell? ((⟨W2.heap.size,0,none⟩:Addr).add j)=some u):=news_tok (heap_alloc_new W2 _)
     have hH2:H≤W2.heap.size:=Nat.le_of_lt hlx2.lt;have hB3:=hB2.alloc hH2 (.cells #[.int .i64 k.kind,.int .i64 k.pos,.int .i64 k.next,.int .i64 k.num,.float .f64 k.flt,.string ⟨k.str.toArray⟩] 98)
     have hlx3:=hlx2.kept ((Fr.refl [] W2).alloc (.cells #[.int .i64 k.kind,.int .i64 k.pos,.int .i64 k.next,.int .i64 k.num,.float .f64 k.flt,.string ⟨k.str.toArray⟩] 98)) (by simp)
     have hT3:=hT2.alloc (.cells #[.int .i64 k.kind,.int .i64 k.pos,.int .i64 k.next,.int .i64 k.num,.float .f64 k.flt,.string ⟨k.str.toArray⟩] 98)
     have hap:=hT3.apart hlx3;have hH3:H≤(W2.alloc (.cells #[.int .i64 k.kind,.int .i64 k.pos,.int .i64 k.next,.int .i64 k.num,.float .f64 k.flt,.string ⟨k.str.toArray⟩] 98)).heap.size:=by simp;omega
     clear hB2 hlx2 hT2 hK2;go_wp2_with (at_builtin;refine wpList_append_own _ rfl _ _ 62 rfl H 98 i0 (.agg (tokCells noTk)) 6 56 Tryz.underlying62 HII.out HZ0.out HZ1.out HZ2.out rfl (by decide) _ o.length (rowsOf o) rfl hT3 ⟨W2.heap.size,0,none⟩ 1 1 (tokCells k).toList rfl rfl HN.out (tok_one k) ?c3 ?c4 ?c5 ?_)
     case c3=>unfold maxLen;omega
     case c4=>omega
     case c5=>exact hH3
     intro v' w3 hown' hgrow _;have hlx4:LexAt H s k.next w3:=(hgrow.block H hlx3.lt (fun e=>hap e.symm)).trans hlx3
     have hB4:=hB3.grown hgrow hH3 (fun g hg=>(World.ownsRow.lt hT3 g hg).1);have hT4:Toks H v' (o++[k]) w3:=by
      show w3.ownsRow _ _ _ _ (o++[k]).length _;rw[rowsOf_snoc,List.length_append];exact hown'
     have E1:=zh hlx4.c1;go_wp2_with fail
     go_roundw
     case rel=>exact⟨k.next,f,o++[k],hn2,by omega,by simp;omega,hlx4,hB4,hT4,by show _=_;rw[hR.out,HF.out]⟩
     case measure =>
      rw[E1.out,L1.out];show s.size - (k.next:Int).toNat<s.size - (k0:Int).toNat
      omega
   ·have t4:(re != 0)=true:=by rw[bne_iff_ne];exact h0
    have HH0:=zh h0;clear h0;go_wp2_with fail
    refine(HTk.out H H wr (Nat.le_refl _) hlx hE1).mono ?_;rintro e w1 ⟨k,c,rfl,hp,hlx1,hc,hfr1,hk⟩;have HK:=zh hk;have hPo:=zh hp;clear hk hp;have hT1:=hT.kept hlx hfr1;have hB1:=hB.trans (hfr1.below (B:=H) hsz (by simp));have hHw:H≤w1.heap.size:=Nat.le_of_lt hlx1.lt;have hne:H≠w1.heap.size:=by have:=hlx1.lt;omega
    clear hlx hT hB hfr1;rw[tokCells_mk k];go_upto_region 5 with (fail)
    have hB2:=hB1.alloc hHw (.cells #[.int .i64 k.kind,.int .i64 k.pos,.int .i64 k.next,.int .i64 k.num,.float .f64 k.flt,.string ⟨k.str.toArray⟩] 98)
    have hK2:TokAt w1.heap.size k (w1.alloc (.cells #[.int .i64 k.kind,.int .i64 k.pos,.int .i64 k.next,.int .i64 k.num,.float .f64 k.flt,.string ⟨k.str.toArray⟩] 98)):=heap_alloc_new w1 _
    have HF:=zh (HX.out HH0.out);generalize w1.alloc (.cells #[.int .i64 k.kind,.int .i64 k.pos,.int .i64 k.next,.int .i64 k.num,.float .f64 k.flt,.string ⟨k.str.toArray⟩] 98)=W2 at *
    generalize w1.heap.size=T at *;have z1:W2.cell? ⟨T,1,none⟩=some (.int .i64 k.pos):=hK2.cell 1;go_wp2_with fail
    go_quiet (fail)
    go_wp2_with fail
    go_ret3;rw[hR.out,HF.out,preT_err _ HH0.out];exact⟨_,by rw[hPo.out];rfl,by rw[HH.out];exact hB2.trans ⟨rfl,rfl,rfl,Nat.le_refl _,fun _ _=>rfl⟩,World.ownsRow_nil _ _ _ _⟩
end
section
open Go.RowKit
theorem Toks.below {B:Nat} {v:Value} {l:List Tk} {w w':World} (h:Toks B v l w) (hb:Below w.heap.size w w'):Toks B v l w' :=
 World.ownsRow.kept (row:=none) h ⟨hb.os,hb.tape,hb.output,hb.size,fun k hk _=>hb.block k hk⟩ (Classical.em _)
theorem rowsOf_get:∀ (l:List Tk) (i j:Nat),i<l.length→j<6→(rowsOf l)[i*6+j]?=(tokCells (l.getD i noTk))[j]?
 | [],_,_,h,_=>by simp at h
 | k::l,0,j,_,hj=>by
  show((tokCells k).toList++rowsOf l)[0*6+j]?=_;rw[Nat.zero_mul,Nat.zero_add,List.getElem?_append_left (by simpa [tokCells] using hj)];simp
 | k::l,i+1,j,h,hj=>by
  show((tokCells k).toList++rowsOf l)[(i+1)*6+j]?=_;have hlen:(tokCells k).toList.length=6:=rfl;rw[List.getElem?_append_right (by omega),hlen,show(i+1)*6+j - 6=i*6+j by omega,rowsOf_get l i j (by simpa using h) hj];rfl
theorem Toks.form {B:Nat} {v:Value} {l:List Tk} {w:World} (h:Toks B v l w) (hl:0<l.length):∃ g cap,v=.slice (some ⟨g,0,none⟩) l.length cap∧g<w.heap.size∧∀ i j,i<l.length→j<6→w.cell? ⟨g,i*6+j,none⟩=(tokCells (l.getD i noTk))[j]?:=by
 have hc:=fun g=>World.ownsRow.cells (g:=g) h
 rcases h.2 with ⟨_,h0⟩|⟨g,cap,cur,rfl,_,hg,_⟩
 ·omega
 ·refine⟨g,cap,rfl,lt_of_block hg,fun i j hi hj=>?_⟩;have h1:=rowsOf_get l i j hi hj;have h2:∃ u,(tokCells (l.getD i noTk))[j]?=some u:=by
   have:j<(tokCells (l.getD i noTk)).size:=hj;exact⟨_,Array.getElem?_eq_getElem this⟩
  obtain⟨u,hu⟩:=h2;have h3:=hc g rfl (i*6+j) u (by rw[h1,hu]);rw[hu,←h3];congr 1
  unfold Addr.add;split<;>simp_all
end
section
open Go.RowKit
/-- what a token's numbers may be -/
def TkOk (k:Tk):Prop:=(-9223372036854775808≤k.num∧k.num≤9223372036854775807)∧F64 k.flt∧k.str.length≤10000∧k.pos≤10000
/-- a slice of tokens that lies in no block b -/
def TokRow (b:Nat) (w:World) (r:List Tk) (v:Value):Prop:=r.length≤10000∧(∀ k ∈ r,TkOk k)∧∃ p cap,v=.slice p r.length cap∧r.length≤cap ∧
 (0<r.length→∃ g o,p=some ⟨g,o,none⟩∧g<w.heap.size∧g<b∧∀ i j,i<r.length→j<6→w.cell? ⟨g,o+(i*6+j),none⟩=(tokCells (r.getD i noTk))[j]?)
theorem TokRow.fr {b:Nat} {w w':World} {r:List Tk} {v:Value} (h:TokRow b w r v) (hf:Fr [b] w w'):TokRow b w' r v:=by
 obtain⟨h1,h0,p,cap,h2,h3,h4⟩:=h;refine⟨h1,h0,p,cap,h2,h3,fun h=>?_⟩;obtain⟨g,o,e,hg,hb,hc⟩:=h4 h;exact⟨g,o,e,Nat.lt_of_lt_of_le hg hf.size,hb,fun i j hi hj=>(hf.cell hg (by simp;omega)).trans (hc i j hi hj)⟩
/-- a parser: the tokens that are left, where the text ends, how deep it is -/
def PsAt (b en dp:Nat) (r:List Tk) (w:World):Prop:=en≤10000∧dp≤1000∧∃ v,TokRow b w r v∧w.heap[b]?=some (.cells #[v,.int .i64 en,.int .i64 dp] 67 (0,0))
theorem PsAt.lt {b en dp:Nat} {r:List Tk} {w:World} (h:PsAt b en dp r w):b<w.heap.size:=by
 obtain⟨_,_,v,_,h⟩:=h;exact lt_of_block h
theorem PsAt.below {b en dp:Nat} {r:List Tk} {w w':World} (h:PsAt b en dp r w) (hb:Below w.heap.size w w'):PsAt b en dp r w':=by
 obtain⟨h0,h1,v,h2,h3⟩:=h;exact⟨h0,h1,v,h2.fr (Fr.of_below hb),(hb.block _ (lt_of_block h3)).trans h3⟩
theorem PsAt.fr {b en dp:Nat} {r:List Tk} {w w':World} {l:List Nat} (h:PsAt b en dp r w) (hf:Fr l w w') (hl:∀ x ∈ l,b<x):PsAt b en dp r w':=by
 obtain⟨h0,h1,v,⟨h2,h4,p,cap,h5,h6,h7⟩,h3⟩:=h;refine⟨h0,h1,v,⟨h2,h4,p,cap,h5,h6,fun hr=>?_⟩,hf.at h3 (fun hm=>absurd (hl b hm) (by omega))⟩;obtain⟨g,o,e,hg,hb,hc⟩:=h7 hr;exact⟨g,o,e,Nat.lt_of_lt_of_le hg hf.size,hb,fun i j hi hj=>(hf.cell hg (fun hm=>absurd (hl g hm) (by omega))).trans (hc i j hi hj)⟩
theorem PsAt.drew {b en dp:Nat} {r:List Tk} {w:World} (h:PsAt b en dp r w):PsAt b en dp r w.drew:=h
/-- the next token; at the end one that says so -/
def nextT (en:Nat):List Tk→Tk
 | []=>⟨1,en,0,0,0,[]⟩
 | k::_=>k
def posN (en:Nat) (r:List Tk):Nat:=(nextT en r).pos
/-- gave up, at a place -/
abbrev faulted (x:Int) (n:Nat):Ending:=.panicked [{ v:=.iface 69 (.agg #[.int .i64 x,.int .i64 (n:Nat)]),recovered:=false }]
theorem pnext_any (b en dp:Nat) (r:List Tk) (w:World) (h:PsAt b en dp r w) :
  Calls Tryz.prog 66 #[.pointer (some ⟨b,0,none⟩)] w (Gives (.agg #[.int .i64 (nextT en r).kind,.int .i64 ((nextT en r).pos:Nat),.int .i64 ((nextT en r).next:Nat),.int .i64 (nextT en r).num,.float .f64 (nextT en r).flt,.string ⟨(nextT en r).str.toArray⟩]) w):=by
 have hsf:∀ (a:Addr) (x:Nat) (m:Mode) (w:World),(store a (.float .f64 x) m).run Tryz.prog w=stored Tryz.prog w a (.float .f64 x) m:=fun a x m w=>run_store _ w a _ m rfl
 obtain⟨_,_,v,⟨hl,_,p,cap,rfl,hcap,hrow⟩,hb⟩:=h;have hbl:=lt_of_block hb;have hB:Below w.heap.size w (w.alloc (.cells #[.int .i64 0,.int .i64 0,.int .i64 0,.int .i64 0,.float .f64 0,.string ⟨#[]⟩] 98)):=(Below.refl _ _).alloc (Nat.le_refl _) _;have hn:=heap_alloc_new w (.cells #[.int .i64 0,.int .i64 0,.int .i64 0,.int .i64 0,.float .f64 0,.string ⟨#[]⟩] 98);have hb1:=(hB.block _ hbl).trans hb;have hcell:=fun g o (hg:g<w.heap.size)=>hB.cell (p:=⟨g,o,none⟩) hg
 have hs:w.heap.size+1≤(w.alloc (.cells #[.int .i64 0,.int .i64 0,.int .i64 0,.int .i64 0,.float .f64 0,.string ⟨#[]⟩] 98)).heap.size:=by simp
 generalize hW:w.alloc (.cells #[.int .i64 0,.int .i64 0,.int .i64 0,.int .i64 0,.float .f64 0,.string ⟨#[]⟩] 98)=W at *;have HW:=zh hW;clear hW;obtain⟨c0,c1,c2⟩:=cells3 hb1;obtain⟨k0,k1,k2,k3,k4,k5⟩:=cellsO6 hn;obtain⟨z0,z1,z2,z3,z4,z5⟩:=free6 hn;cases r with
 | nil =>
  rw[List.length_nil]at c0;clear hrow hcell hb1 hb hcap hl;go_in;go_upto_region 1 with (fail)
  rw[HW.out];go_wp2_with fail
  obtain⟨hst,hff⟩:=put6 hn (.int .i64 1) (.int .i64 (en:Nat)) (.int .i64 0) (.int .i64 0) (.float .f64 0) (.string ⟨#[]⟩);generalize ((((((W).setCell ⟨w.heap.size,0,none⟩ (.int .i64 1)).setCell ⟨w.heap.size,1,none⟩ (.int .i64 (en:Nat))).setCell ⟨w.heap.size,2,none⟩ (.int .i64 0)).setCell ⟨w.heap.size,3,none⟩ (.int .i64 0)).setCell ⟨w.heap.size,4,none⟩ (.float .f64 0)).setCell ⟨w.heap.size,5,none⟩ (.string ⟨#[]⟩)=Z at *;have hfin:Below w.heap.size w Z:=hB.trans (hff.below (B:=w.heap.size) (by omega) (by simp));obtain⟨y0,y1,y2,y3,y4,y5⟩:=cellsO6 hst;refine bodyPost_ret (v:=.agg #[.int .i64 1,.int .i64 (en:Nat),.int .i64 0,.int .i64 0,.float .f64 0,.string ⟨#[]⟩]) (by simp[results,Tryz.results66,go_sem,y0,y1,y2,y3,y4,y5]) rfl ?_
  exact⟨rfl,hfin⟩
 | cons t r =>
  obtain⟨g,o,rfl,hg,hgb,hc⟩:=hrow (by simp);have x0:=(hcell g (o+(0*6+0)) hg).trans (hc 0 0 (by simp) (by omega));have x1:=(hcell g (o+(0*6+1)) hg).trans (hc 0 1 (by simp) (by omega));have x2:=(hcell g (o+(0*6+2)) hg).trans (hc 0 2 (by simp) (by omega));have x3:=(hcell g (o+(0*6+3)) hg).trans (hc 0 3 (by simp) (by omega));have x4:=(hcell g (o+(0*6+4)) hg).trans (hc 0 4 (by simp) (by omega));have x5:=(hcell g (o+(0*6+5)) hg).trans (hc 0 5 (by simp) (by omega));simp[tokCells]at x0 x1 x2 x3 x4 x5;have t0:((r.length:Int)+1==0)=false:=by rw[beq_eq_false_iff_ne];omega
  have t1:((0:Int)<(r.length:Int)+1):=by omega
  have t2:(0:Int)<((r.length+1:Nat):Int):=by omega
  have t3:(((r.length+1:Nat):Int)==0)=false:=by rw[beq_eq_false_iff_ne];omega
  rw[List.length_cons]at c0;clear hrow hcell hb1 hb hcap hl hc;go_in;go_upto_region 1 with (fail)
  rw[HW.out];go_wp2_with fail
  obtain⟨hst,hff⟩:=put6 hn (.int .i64 t.kind) (.int .i64 (t.pos:Nat)) (.int .i64 (t.next:Nat)) (.int .i64 t.num) (.float .f64 t.flt) (.string ⟨t.str.toArray⟩)
  generalize ((((((W).setCell ⟨w.heap.size,0,none⟩ (.int .i64 t.kind)).setCell ⟨w.heap.size,1,none⟩ (.int .i64 (t.pos:Nat))).setCell ⟨w.heap.size,2,none⟩ (.int .i64 (t.next:Nat))).setCell ⟨w.heap.size,3,none⟩ (.int .i64 t.num)).setCell ⟨w.heap.size,4,none⟩ (.float .f64 t.flt)).setCell ⟨w.heap.size,5,none⟩ (.string ⟨t.str.toArray⟩)=Z at *
  have hfin:Below w.heap.size w Z:=hB.trans (hff.below (B:=w.heap.size) (by omega) (by simp));obtain⟨y0,y1,y2,y3,y4,y5⟩:=cellsO6 hst;refine bodyPost_ret (v:=.agg #[.int .i64 t.kind,.int .i64 (t.pos:Nat),.int .i64 (t.next:Nat),.int .i64 t.num,.float .f64 t.flt,.string ⟨t.str.toArray⟩]) (by simp[results,Tryz.results66,go_sem,y0,y1,y2,y3,y4,y5]) rfl ?_
  exact⟨rfl,hfin⟩
theorem pfail_any (b en dp:Nat) (r:List Tk) (w:World) (h:PsAt b en dp r w) :
  Calls Tryz.prog 33 #[.pointer (some ⟨b,0,none⟩)] w fun e w'=>e=faulted 5 (posN en r)∧Below w.heap.size w w':=by
 have HN:=zh (pnext_any b en dp r w h);have HP:=zh (posN.eq_1 en r);clear h;generalize nextT en r=t at *;have hfl:∀ W,(Instr.field 98 (.agg #[.int .i64 t.kind,.int .i64 (t.pos:Nat),.int .i64 (t.next:Nat),.int .i64 t.num,.float .f64 t.flt,.string ⟨t.str.toArray⟩]) 1).run Tryz.prog W=.ok (.int .i64 (t.pos:Nat)) W:=fun W=>by kernel_rfl
 go_in;go_wp2_with fail
 refine(HN.out).mono ?_;rintro e w1 ⟨rfl,hb1⟩;go_wp2_with fail
 exact⟨rfl,by show _=_;rw[HP.out],hb1⟩
/-- where a text stands among signs -/
def ixI (sg:List (List UInt8)) (s:List UInt8):Int:=match idxS sg s with|some i=>(i:Int)|none => -1
theorem ix_hit {sg:List (List UInt8)} {s:List UInt8} {i:Nat} (hi:i<sg.length) (h:sg.getD i []=s) (hb:∀ j,j<i→sg.getD j []≠s):ixI sg s=i:=by
 have e:sg[i]=s:=by rw[←h];simp[List.getD,hi]
 have hm:s ∈ sg:=e ▸ List.getElem_mem hi;have hix:sg.idxOf s=i:=by
  have h1:sg.idxOf s≤i:=by
   rcases Nat.lt_or_ge i (sg.idxOf s)with g|g
   ·have:=List.not_of_lt_findIdx (xs:=sg) (p:=(·==s)) g;simp[e]at this
   ·exact g
  have h2:sg.idxOf s<sg.length:=List.idxOf_lt_length_of_mem hm;have h3:sg[sg.idxOf s]=s:=List.getElem_idxOf h2;rcases Nat.lt_or_ge (sg.idxOf s) i with g|g
  ·exact absurd (by rw[←h3];simp[List.getD,h2]) (hb _ g)
  ·omega
 unfold ixI idxS;rw[if_pos (by simpa using hm),hix]
theorem ix_miss {sg:List (List UInt8)} {s:List UInt8} (hb:∀ j,j<sg.length→sg.getD j []≠s):ixI sg s = -1:=by
 have hm:¬ s ∈ sg:=by
  intro h;obtain⟨i,hi,e⟩:=List.getElem_of_mem h;exact hb i hi (by rw[←e];simp[List.getD,hi])
 unfold ixI idxS;rw[if_neg (by simpa using hm)]
theorem index_any (sg:List (List UInt8)) (s:List UInt8) (g o cap:Nat) (hN:sg.length≤1000) (w:World) (hc:∀ i,i<sg.length→w.cell? ⟨g,o+i,none⟩=some (.string ⟨(sg.getD i []).toArray⟩)) :
  Calls Tryz.prog 92 #[.slice (some ⟨g,o,none⟩) sg.length cap,.string ⟨s.toArray⟩] w fun e w'=>e=.returned (.int .i64 (ixI sg s))∧w=w':=by
 have HC:=zh hc;have HH:=zh (fun i=>ix_hit (sg:=sg) (s:=s) (i:=i));have HM:=zh (ix_miss (sg:=sg) (s:=s));clear hc;generalize ixI sg s=R at *;generalize sg.length=N at *;go_in;go_wp2_with fail
 go_loop [8] (fun iv=>∃ i:Nat,i≤N∧iv=.int .i64 i∧Hid (∀ j,j<i→sg.getD j []≠s)) (fun iv=>N - (intOf iv).toNat)
 case atStart=>exact⟨0,by omega,rfl,fun j hj=>absurd hj (by omega)⟩
 case round =>
  obtain⟨i,hi,rfl,hb⟩:=hrel;by_cases hlt:i<N
  ·have t0:decide ((i:Int)<(N:Int))=true:=by simp;omega
   have x0:=HC.out i hlt;have b1:(0:Int)≤(i:Int):=by omega
   have b2:(i:Int)<(N:Int):=by omega
   by_cases he:sg.getD i []=s
   ·have hR:=HH.out i hlt he hb.out;rw[he]at x0;have HR:=zh hR;clear hR he;go_wp2_with fail
    go_ret;exact⟨ret_val (by rw[HR.out];rfl),rfl⟩
   ·have hne:(s==sg.getD i [])=false:=beq_eq_false_iff_ne.2 (fun h=>he h.symm);have HX:=zh (show ∀ j,j<i+1→sg.getD j []≠s from fun j hj=>by
     rcases Nat.lt_or_ge j i with g|g
     ·exact hb.out j g
     ·rw[show j=i by omega];exact he)
    clear he;generalize sg.getD i []=t at *;go_wp2_with fail
    go_round
    case rel=>exact⟨i+1,by omega,by go_num,HX.out⟩
    case measure=>simp[intOf];omega
  ·have t0:decide ((i:Int)<(N:Int))=false:=by simp;omega
   have hR:=HM.out (fun j hj=>hb.out j (by omega));have HR:=zh hR;clear hR;go_wp2_with fail
   go_ret;exact⟨ret_val (by rw[HR.out];rfl),rfl⟩
end
section
open Go.RowKit
/-- the next token, if it is one of some signs -/
def takeK (sg:List (List UInt8)):List Tk→Option (Nat × List Tk)
 | []=>none
 | t::r=>if t.kind=6 then(match idxS sg t.str with|some i=>some (i,r)|none=>none) else none
theorem takeK_eq (sg:List (List UInt8)) (r:List Tk):takeS sg (r.map Tk.te)=(takeK sg r).map fun p=>(p.1,p.2.map Tk.te):=by
 cases r with
 | nil=>rfl
 | cons t r =>
  rw[List.map_cons,takeS,takeK];show(if t.kind=6 then _ else _)=_
  by_cases h:t.kind=6
  ·rw[if_pos h,if_pos h];show(match idxS sg t.str with|some i=>some (i,r.map Tk.te)|none=>none)=_
   cases idxS sg t.str<;>rfl
  ·rw[if_neg h,if_neg h];rfl
theorem takeK_at (sg:List (List UInt8)) (en:Nat) {r:List Tk} {t:Tk} (h:nextT en r=t) (hk:t.kind=6):(idxS sg t.str=none→takeK sg r=none)∧∀ i,idxS sg t.str=some i→∃ r',r=t::r'∧takeK sg r=some (i,r'):=by
 cases r with
 | nil=>rw[←h]at hk;exact absurd (show(1:Int)=6 from hk) (by decide)
 | cons a r =>
  have h:a=t:=h;subst h;exact⟨fun h=>by rw[takeK,if_pos hk,h],fun i h=>⟨r,rfl,by rw[takeK,if_pos hk,h]⟩⟩
theorem takeK_no (sg:List (List UInt8)) (en:Nat) {r:List Tk} {t:Tk} (h:nextT en r=t) (hk:t.kind≠6):takeK sg r=none:=by
 cases r with
 | nil=>rfl
 | cons a r =>
  have h:a=t:=h;subst h;rw[takeK,if_neg hk]
/-- what take leaves -/
def TkPost (b en dp:Nat) (r:List Tk) (w:World) (res:Option (Nat × List Tk)) (e:Ending) (w':World):Prop :=
 match res with
 | some q=>e=.returned (.int .i64 (q.1:Nat))∧PsAt b en dp q.2 w'∧Fr [b] w w'
 | none=>e=.returned (.int .i64 (-1))∧PsAt b en dp r w'∧Fr [b] w w'
theorem tokRow_nil {b:Nat} (w:World) {r:List Tk} (h:r=[]) (p:Option Addr):TokRow b w r (.slice p 0 0):=by
 subst h;exact⟨by simp,fun k hk=>(nomatch hk),p,0,rfl,Nat.le_refl _,fun h=>absurd h (by simp)⟩
theorem tokRow_cut {b pg po pc:Nat} {w:World} {t:Tk} {r:List Tk} (hl:r.length+1≤10000) (hok:∀ k ∈ r,TkOk k) (hcap:r.length+1≤pc) (hpg:pg<w.heap.size) (hpb:pg<b)
  (hpc:∀ i j,i<(t::r).length→j<6→w.cell? ⟨pg,po+(i*6+j),none⟩=(tokCells ((t::r).getD i noTk))[j]?):TokRow b w r (.slice (some ⟨pg,po+6,none⟩) r.length (pc - 1)) :=
 ⟨by omega,hok,_,_,rfl,by omega,fun _=>⟨pg,po+6,rfl,hpg,hpb,fun i j hi hj=>by
  have:=hpc (i+1) j (by simpa using hi) hj;rw[show po+6+(i*6+j)=po+((i+1)*6+j) by omega,this];rfl⟩⟩
theorem PsAt.set {b en dp:Nat} {r:List Tk} {w:World} {v0 v:Value} (h0:en≤10000) (h1:dp≤1000) (hb:w.heap[b]?=some (.cells #[v0,.int .i64 en,.int .i64 dp] 67 (0,0))) (hv:TokRow b w r v) :
  PsAt b en dp r (w.setCell ⟨b,0,none⟩ v)∧Fr [b] w (w.setCell ⟨b,0,none⟩ v) :=
 have hf:Fr [b] w (w.setCell ⟨b,0,none⟩ v):=(Fr.refl [b] w).setCell ⟨b,0,none⟩ (List.mem_singleton.2 rfl) v
 ⟨⟨h0,h1,v,hv.fr hf,heap_setN hb 0 v⟩,hf⟩
theorem PsAt.deep {b en dp d:Nat} {r:List Tk} {w:World} {v:Value} (h0:en≤10000) (h1:d≤1000) (hv:TokRow b w r v) (hb:w.heap[b]?=some (.cells #[v,.int .i64 en,.int .i64 dp] 67 (0,0))) :
  PsAt b en d r (w.setCell ⟨b,2,none⟩ (.int .i64 d))∧Fr [b] w (w.setCell ⟨b,2,none⟩ (.int .i64 d)) :=
 have hf:Fr [b] w (w.setCell ⟨b,2,none⟩ (.int .i64 d)):=(Fr.refl [b] w).setCell ⟨b,2,none⟩ (List.mem_singleton.2 rfl) _
 ⟨⟨h0,h1,v,hv.fr hf,heap_setN hb 2 _⟩,hf⟩
theorem ptake_any (b en dp:Nat) (r:List Tk) (sg:List (List UInt8)) (gs os cap:Nat) (hN:sg.length≤1000) (w:World) (h:PsAt b en dp r w) (hgs:gs<w.heap.size) (hts:∀ i,i<sg.length→w.cell? ⟨gs,os+i,none⟩=some (.string ⟨(sg.getD i []).toArray⟩)) :
  Calls Tryz.prog 64 #[.pointer (some ⟨b,0,none⟩),.slice (some ⟨gs,os,none⟩) sg.length cap] w (TkPost b en dp r w (takeK sg r)):=by
 have hsf:∀ (a:Addr) (x:Nat) (m:Mode) (w:World),(store a (.float .f64 x) m).run Tryz.prog w=stored Tryz.prog w a (.float .f64 x) m:=fun a x m w=>run_store _ w a _ m rfl
 have HN:=zh (pnext_any b en dp r w h);have HIx:=zh (fun w' (hb:Below w.heap.size w w')=>index_any sg (nextT en r).str gs os cap hN w' (fun i hi=>(hb.cell (p:=⟨gs,os+i,none⟩) hgs).trans (hts i hi)));have HP:=zh (fun w' (hb:Below w.heap.size w w')=>h.below hb);have hbl:=h.lt;clear hts;generalize htt:nextT en r=t at *;have HTT:=zh htt;clear htt;by_cases k6:t.kind=6
 ·have t1:(t.kind != 6)=false:=by rw[k6];rfl
  have hq:=takeK_at sg en (r:=r) (t:=t) HTT.out k6;rcases hix:idxS sg t.str with _|i
  ·have hI:ixI sg t.str = -1:=by unfold ixI;rw[hix]
   rw[hI]at HIx;have HX:=zh (show takeK sg r=none from hq.1 hix);clear hix hI k6 hq;go_in;go_wp2_with fail
   refine(HN.out).mono ?_;rintro e w1 ⟨rfl,hb1⟩;go_upto_region 2 with (fail)
   have hA:Below w1.heap.size w1 (w1.alloc (.cells #[.int .i64 t.kind,.int .i64 (t.pos:Nat),.int .i64 (t.next:Nat),.int .i64 t.num,.float .f64 t.flt,.string ⟨t.str.toArray⟩] 98)):=(Below.refl _ _).alloc (Nat.le_refl _) _
   have hn:=heap_alloc_new w1 (.cells #[.int .i64 t.kind,.int .i64 (t.pos:Nat),.int .i64 (t.next:Nat),.int .i64 t.num,.float .f64 t.flt,.string ⟨t.str.toArray⟩] 98)
   generalize w1.alloc (.cells #[.int .i64 t.kind,.int .i64 (t.pos:Nat),.int .i64 (t.next:Nat),.int .i64 t.num,.float .f64 t.flt,.string ⟨t.str.toArray⟩] 98)=Z at *
   obtain⟨y0,y1,y2,y3,y4,y5⟩:=cellsO6 hn;have hbZ:Below w.heap.size w Z:=hb1.trans (hA.mono hb1.size);clear hn hA;go_wp2_with fail
   refine(HIx.out _ hbZ).mono ?_;rintro e w3 ⟨rfl,rfl⟩;go_wp2_with fail
   go_ret;rw[HX.out];exact⟨rfl,HP.out _ hbZ,Fr.of_below hbZ⟩
  ·have hI:ixI sg t.str=(i:Int):=by unfold ixI;rw[hix]
   rw[hI]at HIx;obtain⟨r',rfl,hq2⟩:=hq.2 i hix;have HX:=zh hq2;have t2:decide ((i:Int)<0)=false:=by simp
   clear hix hI k6 hq hq2;go_in;go_wp2_with fail
   refine(HN.out).mono ?_;rintro e w1 ⟨rfl,hb1⟩;go_upto_region 2 with (fail)
   have hA:Below w1.heap.size w1 (w1.alloc (.cells #[.int .i64 t.kind,.int .i64 (t.pos:Nat),.int .i64 (t.next:Nat),.int .i64 t.num,.float .f64 t.flt,.string ⟨t.str.toArray⟩] 98)):=(Below.refl _ _).alloc (Nat.le_refl _) _
   have hn:=heap_alloc_new w1 (.cells #[.int .i64 t.kind,.int .i64 (t.pos:Nat),.int .i64 (t.next:Nat),.int .i64 t.num,.float .f64 t.flt,.string ⟨t.str.toArray⟩] 98)
   generalize w1.alloc (.cells #[.int .i64 t.kind,.int .i64 (t.pos:Nat),.int .i64 (t.next:Nat),.int .i64 t.num,.float .f64 t.flt,.string ⟨t.str.toArray⟩] 98)=Z at *
   obtain⟨y0,y1,y2,y3,y4,y5⟩:=cellsO6 hn;have hbZ:Below w.heap.size w Z:=hb1.trans (hA.mono hb1.size);clear hn hA;go_wp2_with fail
   refine(HIx.out _ hbZ).mono ?_;rintro e w3 ⟨rfl,rfl⟩;have hps:=HP.out _ hbZ;generalize r'=r at *;obtain⟨h00,h01,v,⟨hl,hok,p,pc,rfl,hcap,hrow⟩,hb⟩:=hps;rw[List.length_cons]at hb hcap hl;obtain⟨c0,c1,c2⟩:=cells3 hb;obtain⟨zb,_,_⟩:=free3 hb;obtain⟨pg,po,rfl,hpg,hpb,hpc⟩:=hrow (by simp);have HPC:=zh hpc;have hok2:∀ k ∈ r,TkOk k:=fun k hk=>hok k (List.mem_cons_of_mem _ hk)
   have i1:(1:Int)≤((r.length+1:Nat):Int):=by omega
   have i2:((r.length+1:Nat):Int)≤(pc:Int):=by omega
   have i3:(1:Int)≤(pc:Int):=by omega
   have HB:=zh hb;clear hpc hrow hb;by_cases hc1:pc=1
   ·subst hc1;have hst:=PsAt.set h00 h01 HB.out (tokRow_nil Z (List.length_eq_zero_iff.1 (show r.length=0 by omega)) (some ⟨pg,po,none⟩));go_wp2_with fail
    go_ret;rw[HX.out];exact⟨rfl,hst.1,(Fr.of_below hbZ).trans hst.2⟩
   ·have hst:=PsAt.set h00 h01 HB.out (tokRow_cut hl hok2 hcap hpg hpb HPC.out);go_wp2_with fail
    go_ret;rw[HX.out];exact⟨rfl,hst.1,(Fr.of_below hbZ).trans hst.2⟩
 ·have t1:(t.kind != 6)=true:=bne_iff_ne.2 k6;have HX:=zh (show takeK sg r=none from takeK_no sg en HTT.out k6);clear k6;go_in;go_wp2_with fail
  refine(HN.out).mono ?_;rintro e w1 ⟨rfl,hb1⟩;go_upto_region 2 with (fail)
  have hA:Below w1.heap.size w1 (w1.alloc (.cells #[.int .i64 t.kind,.int .i64 (t.pos:Nat),.int .i64 (t.next:Nat),.int .i64 t.num,.float .f64 t.flt,.string ⟨t.str.toArray⟩] 98)):=(Below.refl _ _).alloc (Nat.le_refl _) _
  have hn:=heap_alloc_new w1 (.cells #[.int .i64 t.kind,.int .i64 (t.pos:Nat),.int .i64 (t.next:Nat),.int .i64 t.num,.float .f64 t.flt,.string ⟨t.str.toArray⟩] 98)
  generalize w1.alloc (.cells #[.int .i64 t.kind,.int .i64 (t.pos:Nat),.int .i64 (t.next:Nat),.int .i64 t.num,.float .f64 t.flt,.string ⟨t.str.toArray⟩] 98)=Z at *
  obtain⟨y0,y1,y2,y3,y4,y5⟩:=cellsO6 hn;have hbZ:Below w.heap.size w Z:=hb1.trans (hA.mono hb1.size);clear hn hA;go_wp2_with fail
  refine(HIx.out _ hbZ).mono ?_;rintro e w3 ⟨rfl,rfl⟩;go_wp2_with fail
  go_ret;rw[HX.out];exact⟨rfl,HP.out _ hbZ,Fr.of_below hbZ⟩
/-- a sign that must stand there -/
def WtPost (b en dp:Nat) (r:List Tk) (w:World) (res:Option (Nat × List Tk)) (e:Ending) (w':World):Prop :=
 match res with
 | some q=>e=.returned (.tuple #[])∧PsAt b en dp q.2 w'∧Fr [b] w w'
 | none=>e=faulted 5 (posN en r)∧Fr [b] w w'
theorem pwant_any (b en dp:Nat) (r:List Tk) (s:List UInt8) (w:World) (h:PsAt b en dp r w) :
  Calls Tryz.prog 65 #[.pointer (some ⟨b,0,none⟩),.string ⟨s.toArray⟩] w (WtPost b en dp r w (takeK [s] r)):=by
 have hA:Below w.heap.size w (w.alloc (.cells #[.string ⟨s.toArray⟩] 9)):=(Below.refl _ _).alloc (Nat.le_refl _) _;have hn:=heap_alloc_new w (.cells #[.string ⟨s.toArray⟩] 9);have HT:=zh (ptake_any b en dp r [s] w.heap.size 0 1 (by simp) (w.alloc (.cells #[.string ⟨s.toArray⟩] 9)) (h.below hA) (by simp) (fun i hi=>by
  have:i=0:=by simpa using hi
  subst this;rw[zc hn];rfl))
 have HF:=zh (fun w' (h:PsAt b en dp r w')=>pfail_any b en dp r w' h);have HW:=zh hA;clear hn hA;rcases hk:takeK [s] r with _|q
 ·rw[hk]at HT;unfold TkPost at HT;dsimp only at HT;unfold WtPost;dsimp only;go_in;go_wp2_with fail
  refine(HT.out).mono ?_;rintro e w1 ⟨rfl,hp1,hf1⟩;go_wp2_with fail
  refine(HF.out _ hp1).mono ?_;rintro e w2 ⟨rfl,hb2⟩;exact⟨rfl,rfl,((Fr.of_below HW.out).trans hf1).lower (hb2.mono (Nat.le_trans HW.out.size hf1.size))⟩
 ·rw[hk]at HT;unfold TkPost at HT;dsimp only at HT;unfold WtPost;dsimp only;have hd:¬ ((q.1:Nat):Int)<0:=by omega
  go_in;go_wp2_with fail
  refine(HT.out).mono ?_;rintro e w1 ⟨rfl,hp1,hf1⟩;go_wp2_with fail
  go_end0;exact⟨rfl,hp1,(Fr.of_below HW.out).trans hf1⟩
/-- the name that stands next, and what is behind it -/
def nameK:List Tk→Option (List UInt8 × List Tk)
 | []=>none
 | t::r=>if t.kind=5 then some (t.str,r) else none
theorem nameK_eq (r:List Tk):nameT (r.map Tk.te)=(match nameK r with|some q=>.ok (q.1,q.2.map Tk.te)|none=>.error (.form r.length)):=by
 cases r with
 | nil=>rfl
 | cons t r =>
  rw[List.map_cons,nameT,nameK];show(if t.kind=5 then _ else _)=_
  by_cases h:t.kind=5
  ·rw[if_pos h,if_pos h];rfl
  ·rw[if_neg h,if_neg h];simp
theorem nameK_at {en:Nat} {r:List Tk} {t:Tk} (h:nextT en r=t) (hk:t.kind=5):∃ r',r=t::r'∧nameK r=some (t.str,r'):=by
 cases r with
 | nil=>rw[←h]at hk;exact absurd (show(1:Int)=5 from hk) (by decide)
 | cons a r =>
  have h:a=t:=h;subst h;exact⟨r,rfl,by rw[nameK,if_pos hk]⟩
theorem nameK_no {en:Nat} {r:List Tk} {t:Tk} (h:nextT en r=t) (hk:t.kind≠5):nameK r=none:=by
 cases r with
 | nil=>rfl
 | cons a r =>
  have h:a=t:=h;subst h;rw[nameK,if_neg hk]
/-- a name that must stand there -/
def NmPost (b en dp:Nat) (r:List Tk) (w:World) (res:Option (List UInt8 × List Tk)) (e:Ending) (w':World):Prop :=
 match res with
 | some q=>e=.returned (.string ⟨q.1.toArray⟩)∧PsAt b en dp q.2 w'∧Fr [b] w w'
 | none=>e=faulted 5 (posN en r)∧Fr [b] w w'
theorem pname_any (b en dp:Nat) (r:List Tk) (w:World) (h:PsAt b en dp r w) :
  Calls Tryz.prog 152 #[.pointer (some ⟨b,0,none⟩)] w (NmPost b en dp r w (nameK r)):=by
 have hsf:∀ (a:Addr) (x:Nat) (m:Mode) (w:World),(store a (.float .f64 x) m).run Tryz.prog w=stored Tryz.prog w a (.float .f64 x) m:=fun a x m w=>run_store _ w a _ m rfl
 have HN:=zh (pnext_any b en dp r w h);have HF:=zh (fun w' (h:PsAt b en dp r w')=>pfail_any b en dp r w' h);have HP:=zh (fun w' (hb:Below w.heap.size w w')=>h.below hb);have hbl:=h.lt;generalize htt:nextT en r=t at *;have HTT:=zh htt;clear htt;by_cases k6:t.kind=5
 ·have t1:(t.kind != 5)=false:=by rw[k6];rfl
  obtain⟨r',rfl,hq2⟩:=nameK_at HTT.out k6;have HX:=zh hq2;clear k6 hq2;go_in;go_wp2_with fail
  refine(HN.out).mono ?_;rintro e w1 ⟨rfl,hb1⟩;go_upto_region 2 with (fail)
  have hA:Below w1.heap.size w1 (w1.alloc (.cells #[.int .i64 t.kind,.int .i64 (t.pos:Nat),.int .i64 (t.next:Nat),.int .i64 t.num,.float .f64 t.flt,.string ⟨t.str.toArray⟩] 98)):=(Below.refl _ _).alloc (Nat.le_refl _) _
  have hn:=heap_alloc_new w1 (.cells #[.int .i64 t.kind,.int .i64 (t.pos:Nat),.int .i64 (t.next:Nat),.int .i64 t.num,.float .f64 t.flt,.string ⟨t.str.toArray⟩] 98)
  generalize w1.alloc (.cells #[.int .i64 t.kind,.int .i64 (t.pos:Nat),.int .i64 (t.next:Nat),.int .i64 t.num,.float .f64 t.flt,.string ⟨t.str.toArray⟩] 98)=Z at *
  obtain⟨y0,y1,y2,y3,y4,y5⟩:=cellsO6 hn;have hbZ:Below w.heap.size w Z:=hb1.trans (hA.mono hb1.size);clear hn hA;have hps:=HP.out _ hbZ;generalize r'=r at *;obtain⟨h00,h01,v,⟨hl,hok,p,pc,rfl,hcap,hrow⟩,hb⟩:=hps;rw[List.length_cons]at hb hcap hl;obtain⟨c0,c1,c2⟩:=cells3 hb;obtain⟨zb,_,_⟩:=free3 hb;obtain⟨pg,po,rfl,hpg,hpb,hpc⟩:=hrow (by simp);have HPC:=zh hpc;have hok2:∀ k ∈ r,TkOk k:=fun k hk=>hok k (List.mem_cons_of_mem _ hk)
  have i1:(1:Int)≤((r.length+1:Nat):Int):=by omega
  have i2:((r.length+1:Nat):Int)≤(pc:Int):=by omega
  have i3:(1:Int)≤(pc:Int):=by omega
  have HB:=zh hb;clear hpc hrow hb;by_cases hc1:pc=1
  ·subst hc1;have hst:=PsAt.set h00 h01 HB.out (tokRow_nil Z (List.length_eq_zero_iff.1 (show r.length=0 by omega)) (some ⟨pg,po,none⟩));go_wp2_with fail
   go_ret;rw[HX.out];exact⟨rfl,hst.1,(Fr.of_below hbZ).trans hst.2⟩
  ·have hst:=PsAt.set h00 h01 HB.out (tokRow_cut hl hok2 hcap hpg hpb HPC.out);go_wp2_with fail
   go_ret;rw[HX.out];exact⟨rfl,hst.1,(Fr.of_below hbZ).trans hst.2⟩
 ·have t1:(t.kind != 5)=true:=bne_iff_ne.2 k6;have HX:=zh (nameK_no HTT.out k6);clear k6;go_in;go_wp2_with fail
  refine(HN.out).mono ?_;rintro e w1 ⟨rfl,hb1⟩;go_upto_region 2 with (fail)
  have hA:Below w1.heap.size w1 (w1.alloc (.cells #[.int .i64 t.kind,.int .i64 (t.pos:Nat),.int .i64 (t.next:Nat),.int .i64 t.num,.float .f64 t.flt,.string ⟨t.str.toArray⟩] 98)):=(Below.refl _ _).alloc (Nat.le_refl _) _
  have hn:=heap_alloc_new w1 (.cells #[.int .i64 t.kind,.int .i64 (t.pos:Nat),.int .i64 (t.next:Nat),.int .i64 t.num,.float .f64 t.flt,.string ⟨t.str.toArray⟩] 98)
  generalize w1.alloc (.cells #[.int .i64 t.kind,.int .i64 (t.pos:Nat),.int .i64 (t.next:Nat),.int .i64 t.num,.float .f64 t.flt,.string ⟨t.str.toArray⟩] 98)=Z at *
  obtain⟨y0,y1,y2,y3,y4,y5⟩:=cellsO6 hn;have hbZ:Below w.heap.size w Z:=hb1.trans (hA.mono hb1.size);clear hn hA;go_wp2_with fail
  refine(HF.out _ (HP.out _ hbZ)).mono ?_;rintro e w3 ⟨rfl,hb3⟩;rw[HX.out];exact⟨rfl,rfl,(Fr.of_below hbZ).lower (hb3.mono hbZ.size)⟩
-- down by one: too deep
theorem pdown_no (b en:Nat) (r:List Tk) (w:World) (h:PsAt b en 100 r w) :
  Calls Tryz.prog 62 #[.pointer (some ⟨b,0,none⟩)] w fun e w'=>e=faulted 15 0∧Fr [b] w w':=by
 obtain⟨h00,h01,v,hv,hb⟩:=h;obtain⟨c0,c1,c2⟩:=cells3 hb;obtain⟨_,_,zb⟩:=free3 hb;have HST:=zh (PsAt.deep (d:=101) h00 (by omega) hv hb).2;have hkn:((100:Nat):Int)=100:=rfl;rw[hkn]at c2;clear hb hv;go_in;go_wp2_with fail
 exact⟨rfl,rfl,HST.out⟩
-- down by one
theorem pdown_any (b en dp:Nat) (r:List Tk) (w:World) (hdp:dp<100) (h:PsAt b en dp r w) :
  Calls Tryz.prog 62 #[.pointer (some ⟨b,0,none⟩)] w fun e w'=>e=.returned (.tuple #[])∧PsAt b en (dp+1) r w'∧Fr [b] w w':=by
 obtain⟨h00,h01,v,hv,hb⟩:=h;obtain⟨c0,c1,c2⟩:=cells3 hb;obtain⟨_,_,zb⟩:=free3 hb;have HST:=zh (PsAt.deep (d:=dp+1) h00 (by omega) hv hb);have hwr:IntKind.i64.wrap (((dp:Nat):Int)+1)=((dp:Nat):Int)+1:=by rw[IntKind.wrap_i64];omega
 clear hb hv;have d1:¬ (100:Int)<(dp:Int)+1:=by omega
 have d2:decide ((100:Int)<(dp:Int)+1)=false:=by simp;omega
 go_in;go_wp2_with fail
 go_end0;exact⟨rfl,HST.out.1,HST.out.2⟩
end
section
open Go
theorem primF_0 {E:List Te→PR} {l q:List Te} (h:takeS [[40],[91],[123]] l=some (0,q)):primF E l=(match E q with|.error e=>.error e|.ok (x,r2)=>(match wantS [41] r2 with|.error e=>.error e|.ok r3=>.ok (x,r3))):=by
 unfold primF;rw[h]<;>rfl
theorem primF_1 {E:List Te→PR} {l q:List Te} (h:takeS [[40],[91],[123]] l=some (1,q)):primF E l=(match takeS [[93]] q with|some (_,r2)=>.ok (.mk 16 [] noVT [] [],r2)|none=>rowL E (q.length+1) [] q):=by
 unfold primF;rw[h]<;>rfl
theorem primF_2 {E:List Te→PR} {l q:List Te} (h:takeS [[40],[91],[123]] l=some (2,q)):primF E l=(match takeS [[125]] q with|some (_,r2)=>.ok (.mk 17 [] noVT [] [],r2)|none=>recL E (q.length+1) [] [] q):=by
 unfold primF;rw[h]<;>rfl
theorem primF_n {E:List Te→PR} {t:Te} {q:List Te} (h:takeS [[40],[91],[123]] (t::q)=none):primF E (t::q)=if t.kind=2 then .ok (conE (.mk 2 t.num 0 [] [] []),q)
   else if t.kind=3 then .ok (conE (.mk 3 0 t.flt [] [] []),q)
   else if t.kind=4 then .ok (conE (.mk 4 0 0 t.str [] []),q)
   else if t.kind=5 then wordF E (t::q)
   else .error (.form (q.length+1)):=by
 unfold primF;rw[h]<;>rfl
theorem postL_n {E:List Te→PR} {n:Nat} {x:ET} {l:List Te} (h:takeS [[46],[91]] l=none):postL E (n+1) x l=.ok (x,l):=by
 rw[postL,h]<;>rfl
theorem postL_0 {E:List Te→PR} {n:Nat} {x:ET} {l q:List Te} (h:takeS [[46],[91]] l=some (0,q)):postL E (n+1) x l=(match nameT q with|.error e=>.error e|.ok (s,r2)=>postL E n (.mk 18 s noVT [] [x]) r2):=by
 rw[postL,h]<;>rfl
theorem postL_1 {E:List Te→PR} {n:Nat} {x:ET} {l q:List Te} (h:takeS [[46],[91]] l=some (1,q)):postL E (n+1) x l=(match E q with|.error e=>.error e|.ok (y,r2)=>(match wantS [93] r2 with|.error e=>.error e|.ok r3=>postL E n (twoE 19 x y) r3)):=by
 rw[postL,h]<;>rfl
theorem unF_n {E U:List Te→PR} {l:List Te} (h:takeS [[45],[33]] l=none):unF E U l=postF E l:=by
 unfold unF;rw[h]<;>rfl
theorem unF_0 {E U:List Te→PR} {l q:List Te} (h:takeS [[45],[33]] l=some (0,q)):unF E U l=(match U q with|.error e=>.error e|.ok (x,r2)=>.ok (oneE 3 x,r2)):=by
 unfold unF;rw[h]<;>rfl
theorem unF_1 {E U:List Te→PR} {l q:List Te} (h:takeS [[45],[33]] l=some (1,q)):unF E U l=(match U q with|.error e=>.error e|.ok (x,r2)=>.ok (oneE 4 x,r2)):=by
 unfold unF;rw[h]<;>rfl
theorem less_trans' {a b c:List UInt8} (h1:Op.bytesLess a b=true) (h2:Op.bytesLess b c=true):Op.bytesLess a c=true:=by
 induction a generalizing b c with
 | nil =>
  cases b with
  | nil=>rw[Op.bytesLess]at h1;cases h1
  | cons y b=>cases c with
   | nil=>rw[Op.bytesLess]at h2;cases h2
   | cons z c=>rfl
 | cons x a ih =>
  cases b with
  | nil=>rw[Op.bytesLess]at h1;cases h1
  | cons y b=>cases c with
   | nil=>rw[Op.bytesLess]at h2;cases h2
   | cons z c =>
    rw[Op.bytesLess]at h1 h2 ⊢
    simp only[Bool.or_eq_true,Bool.and_eq_true,decide_eq_true_eq,beq_iff_eq]at h1 h2 ⊢
    rcases h1 with h1|⟨rfl,h1⟩
    ·rcases h2 with h2|⟨rfl,h2⟩
     ·exact .inl (UInt8.lt_trans h1 h2)
     ·exact .inl h1
    ·rcases h2 with h2|⟨rfl,h2⟩
     ·exact .inl h2
     ·exact .inr ⟨rfl,ih h1 h2⟩
end
end Go.Proofs.YtaaaaggmhjhkkaaGreatDoor
