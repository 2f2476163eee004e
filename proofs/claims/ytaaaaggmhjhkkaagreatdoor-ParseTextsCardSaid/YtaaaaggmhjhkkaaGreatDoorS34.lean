/-
  Tu, E9, E8, Tv, Tw, H1, H5 in one text.
-/
import Derived.Test.YtaaaaggmhjhkkaaGreatDoorS30
import Derived.Test.YtaaaaggmhjhkkaaGreatDoorS33
import Derived.Test.YtaaaaggmhjhkkaaGreatDoorCl
set_option maxRecDepth 100000
set_option maxHeartbeats 4000000
namespace Go.Proofs.YtaaaaggmhjhkkaaGreatDoor
section
open Go.RowKit
theorem pexpr_no (b en:Nat):ReadsE 32 (fun _=>.error .deep) b en 100:=fun r w h=>by
 have hA:Below w.heap.size w (w.alloc (.cells #[.int .i64 0,.string ⟨#[]⟩,.int .i64 0,.int .i64 0,.float .f64 0,.string ⟨#[]⟩,.slice none 0 0,.slice none 0 0,.slice none 0 0,.slice none 0 0] 29)):=(Below.refl _ _).alloc (Nat.le_refl _) _;have HD:=zh (pdown_no b en r _ (h.below hA));clear h;go_in;go_wp2_with fail
 refine(HD.out).mono ?_;rintro e w1 ⟨rfl,hf1⟩;exact⟨rfl,PrPost.bad (er:=.deep) rfl rfl ((Fr.of_below hA).trans hf1)⟩
theorem punary_no (b en:Nat):ReadsE 91 (fun _=>.error .deep) b en 100:=fun r w h=>by
 have hA:Below w.heap.size w (w.alloc (.cells #[.int .i64 0,.string ⟨#[]⟩,.int .i64 0,.int .i64 0,.float .f64 0,.string ⟨#[]⟩,.slice none 0 0,.slice none 0 0,.slice none 0 0,.slice none 0 0] 29)):=(Below.refl _ _).alloc (Nat.le_refl _) _;have HD:=zh (pdown_no b en r _ (h.below hA));clear h;go_in;go_wp2_with fail
 refine(HD.out).mono ?_;rintro e w1 ⟨rfl,hf1⟩;exact⟨rfl,PrPost.bad (er:=.deep) rfl rfl ((Fr.of_below hA).trans hf1)⟩
theorem reads_all (b en:Nat):∀ n dp:Nat,n+dp=100→ReadsE 32 (exUn n).1 b en dp∧ReadsE 91 (exUn n).2 b en dp
 | 0,dp,h=>by
  obtain rfl:dp=100:=by omega
  exact⟨pexpr_no b en,punary_no b en⟩
 | n+1,dp,h=>by
  obtain⟨hE,hU⟩:=reads_all b en n (dp+1) (by omega);have hPost:=ppost_any _ b en (dp+1) hE (pprim_any _ b en (dp+1) hE (prowOf_any _ b en (dp+1) hE) (precord_any _ b en (dp+1) hE));have h5:=pbinary_5 _ b en (dp+1) hU;have h4:=pbinary_n _ b en (dp+1) 4 (by omega) _ [] rfl h5;have h3:=pbinary_n _ b en (dp+1) 3 (by omega) _ _ rfl h4;have h2:=pbinary_n _ b en (dp+1) 2 (by omega) _ _ rfl h3;have h1:=pbinary_n _ b en (dp+1) 1 (by omega) _ _ rfl h2;have h0:=pbinary_n _ b en (dp+1) 0 (by omega) _ _ rfl h1;exact⟨pexpr1_any _ _ b en dp (by omega) h0 hE,punary_any _ _ b en dp (by omega) hU hPost⟩
end
section
open Go
theorem exB_F64 (s:Bool) {n:Nat} (k:Int) (hn:n≤9007199254740992):F64 (exB s n k):=by
 unfold exB;by_cases h0:n=0
 ·rw[if_pos h0];exact Fl.word_lt s (by omega)
 ·rw[if_neg h0];by_cases hr:rep (odd n) (k+tz n)
  ·rw[if_pos hr];obtain⟨h1,h2⟩:=hr;have ho:=odd_spec h0 (by omega);have h3:odd n≠0:=by have:=ho.1;omega
   have h5:odd n≤n:=by
    have h6:odd n*1≤odd n*2 ^ tz n:=Nat.mul_le_mul_left _ (Nat.one_le_two_pow);rw[←ho.2]at h6;omega
   have:=Fl.rungOf_fin h3 (by have:=ho.1;omega) h1 h2;exact Fl.word_lt s (by omega)
  ·rw[if_neg hr];unfold F64;omega
theorem parseB_F64 (l:List UInt8):F64 (parseB l).1:=by
 unfold parseB;by_cases h1:l=[110,97,110]
 ·rw[if_pos h1];show(9221120237041090560:Nat)<18446744073709551616;omega
 ·rw[if_neg h1];by_cases h2:unNeg l=[105,110,102]
  ·rw[if_pos h2];exact Fl.word_lt _ (by omega)
  ·rw[if_neg h2];rcases splitP (unNeg l)with _|⟨m,p⟩
   ·show(0:Nat)<18446744073709551616;omega
   ·dsimp only;by_cases h3:(digsOK m 20&&digsOK (unNeg p) 4)=true
    ·rw[if_pos h3];by_cases h4:9007199254740992<decVal m
     ·rw[if_pos h4];show(0:Nat)<18446744073709551616;omega
     ·rw[if_neg h4];exact exB_F64 _ _ (by omega)
    ·rw[if_neg h3];show(0:Nat)<18446744073709551616;omega
theorem noTk_ok:TkOk noTk:=⟨⟨by decide,by decide⟩,(by show(0:Nat)<18446744073709551616;omega),by decide,by decide⟩
theorem tk_ok {k n:Int} {a j f:Nat} {s:List UInt8} (hn : -9223372036854775808≤n∧n≤9223372036854775807) (hf:F64 f) (hs:s.length≤10000) (ha:a≤10000):TkOk ⟨k,a,j,n,f,s⟩:=⟨hn,hf,hs,ha⟩
theorem z_F64:F64 0:=by unfold F64;omega
theorem part_le (l:List UInt8) (a e:Nat):(part l a e).length≤l.length:=by
 unfold part;rw[List.length_take,List.length_drop];omega
theorem tok_ok {l:List UInt8} {b:Nat} (hl:l.length≤2000) (hb:b≤l.length):TkOk (tokS l b).1:=by
 have hle:=far_le isBl l hb;unfold tokS;dsimp only;generalize b+far isBl l b=a at *;by_cases h1:a=l.length
 ·rw[if_pos h1];exact tk_ok ⟨by decide,by decide⟩ z_F64 (by simp) (by omega)
 ·rw[if_neg h1];by_cases h2:isDig (l.getD a 0)=true
  ·rw[if_pos h2];unfold numS;dsimp only;by_cases g1:l[a+far isDig l a]?=some 112
   ·rw[if_pos g1];generalize (if l[a+far isDig l a+1]?=some 45 then a+far isDig l a+2 else a+far isDig l a+1)=k
    by_cases g2:far isDig l k=0
    ·rw[if_pos g2];exact noTk_ok
    ·rw[if_neg g2];exact tk_ok ⟨by decide,by decide⟩ (parseB_F64 _) (by simp) (by omega)
   ·rw[if_neg g1];split
    ·exact noTk_ok
    ·rename_i h;exact tk_ok ⟨by omega,by omega⟩ z_F64 (by simp) (by omega)
  ·rw[if_neg h2];by_cases h3:isLet (l.getD a 0)=true
   ·rw[if_pos h3];unfold nameS;dsimp only;split
    ·exact tk_ok ⟨by decide,by decide⟩ (parseB_F64 _) (by simp) (by omega)
    ·split
     ·exact noTk_ok
     ·exact tk_ok ⟨by decide,by decide⟩ z_F64 (Nat.le_trans (part_le l _ _) (by omega)) (by omega)
   ·rw[if_neg h3];by_cases h4:l.getD a 0=34
    ·rw[if_pos h4];unfold strS;split
     ·exact noTk_ok
     ·split
      ·exact noTk_ok
      ·exact tk_ok ⟨by decide,by decide⟩ z_F64 (by omega) (by omega)
    ·rw[if_neg h4];unfold signS;split
     ·exact tk_ok ⟨by decide,by decide⟩ z_F64 (Nat.le_trans (part_le l _ _) (by omega)) (by omega)
     ·split
      ·exact tk_ok ⟨by decide,by decide⟩ z_F64 (by simp) (by omega)
      ·exact noTk_ok
theorem all_ok {l:List UInt8} (hl:l.length≤2000):∀ (f b:Nat),b≤l.length→∀ k ∈ (allS l f b).1,TkOk k
 | 0,_,_,k,h=>nomatch h
 | f+1,b,hb,k,h=>by
  by_cases h0:(tokS l b).2=0
  ·rcases tok_cases hb h0 with ⟨_,h2⟩|⟨h1,h2⟩
   ·rw[allS_end h0 (by rw[h2])]at h;cases h
   ·have e1:=allS_go (f:=f) [] h0 h2.kind;rw[preT_nil,List.nil_append]at e1;have ih:=all_ok hl f (tokS l b).1.next h2.le
    rw[e1]at h;unfold preT at h;split at h
    ·exact ih k h
    ·rcases List.mem_append.1 h with h|h
     ·rw[List.mem_singleton.1 h];exact tok_ok hl hb
     ·exact ih k h
  ·rw[allS_err h0]at h;cases h
theorem tokens_ok (l:List UInt8):∀ k ∈ (tokens l).1,TkOk k:=by
 unfold tokens;by_cases h:2000<l.length
 ·rw[if_pos h];intro k hk;cases hk
 ·rw[if_neg h];exact all_ok (by omega) _ 0 (by omega)
end
section
open Go
section
variable {r0:List Te} {E:List Te→PR}
end
section
variable {E E':List Te→PR}
end
/-- the tokens of a text, places left out -/
def tesOf (l:List UInt8):List Te:=(tokens l).1.map Tk.te
theorem parse_was {l:List UInt8} (h:(parseX l).2.2=0):l.length≤2000∧(tokens l).2.2=0∧(exUn 100).1 (tesOf l)=.ok ((parseX l).1,[])∧rightEx (parseX l).1=true∧parseX l=((parseX l).1,0,0):=by
 by_cases h1:2000<l.length
 ·unfold parseX at h;rw[if_pos h1]at h;cases h
 ·by_cases h2:(tokens l).2.2≠0
  ·unfold parseX at h;rw[if_neg h1,if_pos h2]at h;exact absurd h h2
  ·rcases he:(exUn 100).1 ((tokens l).1.map Tk.te)with e|⟨x,r⟩
   ·exfalso
    unfold parseX at h;rw[if_neg h1,if_neg h2]at h;dsimp only at h;rw[he]at h;cases e<;>cases h
   ·have hp:parseX l=if r≠[] then(noET,(if r.length=0 then l.length else((tokens l).1.getD ((tokens l).1.length - r.length) noTk).pos),5) else if rightEx x then(x,0,0) else(noET,0,15):=by
     unfold parseX;rw[if_neg h1,if_neg h2];dsimp only;rw[he]
    rw[hp]at h ⊢
    by_cases hr:r=[]
    ·subst hr;rw[if_neg (by simp)]at h ⊢
     by_cases hx:rightEx x=true
     ·rw[if_pos hx]at h ⊢
      exact⟨by omega,by omega,he,hx,rfl⟩
     ·rw[if_neg hx]at h;cases h
    ·rw[if_pos hr]at h;cases h
end
section
open Go.RowKit
theorem ta_fault (x n:Int) (w:World):(Instr.typeAssert (.iface 69 (.agg #[.int .i64 x,.int .i64 n])) 20 69 true).run Tryz.prog w=.ok (.tuple #[.agg #[.int .i64 x,.int .i64 n],.bool true]) w:=by kernel_rfl
theorem ta_nilF (w:World):(Instr.typeAssert .nilIface 20 69 true).run Tryz.prog w=.ok (.tuple #[.agg #[.int .i64 0,.int .i64 0],.bool false]) w:=by kernel_rfl
theorem parse1_up (X A E:Nat) (x n:Int) (a0 e0:Value) (w:World) (hXA:X≠A) (hXE:X≠E) (hAE:A≠E) (hX:w.heap[X]?=some (.cells #[.int .i64 0,.string ⟨#[]⟩,.int .i64 0,.int .i64 0,.float .f64 0,.string ⟨#[]⟩,.slice none 0 0,.slice none 0 0,.slice none 0 0,.slice none 0 0] 29 (0,0))) (hA:w.heap[A]?=some (.cells #[a0] 3 (0,0))) (hE:w.heap[E]?=some (.cells #[e0] 32 (0,0))) :
  CallsD Tryz.prog 31 #[.pointer (some ⟨X,0,none⟩),.pointer (some ⟨A,0,none⟩),.pointer (some ⟨E,0,none⟩)] (.panicking [{ v:=.iface 69 (.agg #[.int .i64 x,.int .i64 n]),recovered:=false }]) w fun e u' w' =>
   e=.returned (.tuple #[])∧u'=.panicking [{ v:=.iface 69 (.agg #[.int .i64 x,.int .i64 n]),recovered:=true }]∧w'.heap[X]?=some (.cells #[.int .i64 0,.string ⟨#[]⟩,.int .i64 0,.int .i64 0,.float .f64 0,.string ⟨#[]⟩,.slice none 0 0,.slice none 0 0,.slice none 0 0,.slice none 0 0] 29 (0,0))∧w'.heap[A]?=some (.cells #[.int .i64 n] 3 (0,0))∧w'.heap[E]?=some (.cells #[.int .i64 x] 32 (0,0))∧Fr [X,A,E] w w':=by
 have hta:=ta_fault x n;refine callsD_of_wpS Tryz.func31 rfl fun c₀ cs hu=>?_
 apply wpS_seq
 apply wpS_region
 simp[wpOpsS,go_sem,recoverD,hu,hta,Tryz.ntmps31,Exit.thenS];apply wpS_seq
 apply wpS_region
 simp[wpOpsS,go_sem,Exit.thenS];refine wpS_cond (t:=true) (by simp[Act.eval,Array.replicate]) ?_;simp only[if_true];refine wpS_of_wp ?_;have hF:=heap_alloc_new w (.cells #[.int .i64 x,.int .i64 n] 69);have hbk:=(Below.refl w.heap.size w).alloc (Nat.le_refl _) (.cells #[.int .i64 x,.int .i64 n] 69);have hX1:=(hbk.block _ (lt_of_block hX)).trans hX;have hA1:=(hbk.block _ (lt_of_block hA)).trans hA;have hE1:=(hbk.block _ (lt_of_block hE)).trans hE;have hXl:=lt_of_block hX;have hAl:=lt_of_block hA;have hEl:=lt_of_block hE;generalize hT:(#[Value.pointer (some ⟨X,0,none⟩),Value.pointer (some ⟨A,0,none⟩),Value.pointer (some ⟨E,0,none⟩)]++_:Array Value)=T;have hT2:T=#[.pointer (some ⟨X,0,none⟩),.pointer (some ⟨A,0,none⟩),.pointer (some ⟨E,0,none⟩),.pointer (some ⟨w.heap.size,0,none⟩),.bool true,.tuple #[.agg #[.int .i64 x,.int .i64 n],.bool true],.iface 69 (.agg #[.int .i64 x,.int .i64 n]),.tuple #[.agg #[.int .i64 x,.int .i64 n],.bool true],.agg #[.int .i64 x,.int .i64 n],.bool true,.bool true,undef,undef,undef,undef,undef]:=by
  rw[←hT];simp[Array.replicate]
 subst hT2;clear hT;generalize w.alloc (.cells #[.int .i64 x,.int .i64 n] 69)=w1 at *;obtain⟨f0,f1⟩:=cells2 hF;have g0:w1.cell? ⟨A,0,none⟩=some a0:=by rw[zc hA1];rfl
 have g1:w1.cell? ⟨E,0,none⟩=some e0:=by rw[zc hE1];rfl
 have y0:=Lib.frozen_of_heap hA1 0;have y1:=Lib.frozen_of_heap hE1 0;obtain⟨c0,c1,c2,c3,c4,c5,c6,c7,c8,c9⟩:=cellsO10 hX1;obtain⟨u0,u1,u2,u3,u4,u5,u6,u7,u8,u9⟩:=free10 hX1;have hsf:∀ (a:Addr) (x:Nat) (m:Mode) (w:World),(store a (.float .f64 x) m).run Tryz.prog w=stored Tryz.prog w a (.float .f64 x) m:=fun a x m w=>run_store _ w a _ m rfl
 generalize hFF:w.heap.size=F at *;have n1:¬ A=X:=fun h=>hXA h.symm
 have n2:¬ E=X:=fun h=>hXE h.symm
 have n3:¬ E=A:=fun h=>hAE h.symm
 go_region_law (fail)
 all_goals
  obtain⟨hst,hff⟩:=put10 hX1 (.int .i64 0) (.string ⟨#[]⟩) (.int .i64 0) (.int .i64 0) (.float .f64 0) (.string ⟨#[]⟩) (.slice none 0 0) (.slice none 0 0) (.slice none 0 0) (.slice none 0 0);generalize ((((((((((w1).setCell ⟨X,0,none⟩ (.int .i64 0)).setCell ⟨X,1,none⟩ (.string ⟨#[]⟩)).setCell ⟨X,2,none⟩ (.int .i64 0)).setCell ⟨X,3,none⟩ (.int .i64 0)).setCell ⟨X,4,none⟩ (.float .f64 0)).setCell ⟨X,5,none⟩ (.string ⟨#[]⟩)).setCell ⟨X,6,none⟩ (.slice none 0 0)).setCell ⟨X,7,none⟩ (.slice none 0 0)).setCell ⟨X,8,none⟩ (.slice none 0 0)).setCell ⟨X,9,none⟩ (.slice none 0 0)=wa at *;have hA2:=hff.at hA1 (by simpa using n1);have hE2:=hff.at hE1 (by simpa using n2);have hA3:=heap_setN hA2 0 (.int .i64 n);have fA:=(Fr.refl [A] wa).setCell ⟨A,0,none⟩ (by simp) (.int .i64 n);have hX3:=fA.at hst (by simpa using hXA);have hE3:=fA.at hE2 (by simpa using n3);generalize wa.setCell ⟨A,0,none⟩ (.int .i64 n)=wb at *;have hE4:=heap_setN hE3 0 (.int .i64 x);have fE:=(Fr.refl [E] wb).setCell ⟨E,0,none⟩ (by simp) (.int .i64 x);have hX4:=fE.at hX3 (by simpa using hXE);have hA4:=fE.at hA3 (by simpa using hAE);generalize wb.setCell ⟨E,0,none⟩ (.int .i64 x)=wd at *;have hfr:Fr [X,A,E] w wd:=(((Fr.of_below (l:=[X,A,E]) (by rw[hFF];exact hbk)).trans (hff.mono (by simp))).trans (fA.mono (by simp))).trans (fE.mono (by simp));exact⟨rfl,_,rfl,_,results_none rfl _ _ _,rfl,rfl,hX4,hA4,hE4,hfr.drew⟩
theorem parse1_idle (X A E:Nat) (w:World) :
  CallsD Tryz.prog 31 #[.pointer (some ⟨X,0,none⟩),.pointer (some ⟨A,0,none⟩),.pointer (some ⟨E,0,none⟩)] .returning w fun e u' w'=>e=.returned (.tuple #[])∧u'=.returning∧Below w.heap.size w w':=by
 have hta:=ta_nilF;refine callsD_of_wpS Tryz.func31 rfl fun c₀ cs hu=>?_
 apply wpS_seq
 apply wpS_region
 simp[wpOpsS,go_sem,recoverD,hu,hta,Tryz.ntmps31,Exit.thenS];apply wpS_seq
 apply wpS_region
 simp[wpOpsS,go_sem,Exit.thenS];refine wpS_cond (t:=false) (by simp[Act.eval,Array.replicate]) ?_;simp only[Bool.false_eq_true,if_false];refine wpS_of_wp (wp_skip ?_);cases c₀
 have hbk:=(Below.refl w.heap.size w).alloc (Nat.le_refl _) (.cells #[.int .i64 0,.int .i64 0] 69);simp_all [bodyPostS,results,Tryz.results31]
theorem Toks.fr {B b:Nat} {v:Value} {l:List Tk} {w w':World} (h:Toks B v l w) (hf:Fr [b] w w') (hb:b<B):Toks B v l w' :=
 World.ownsRow.kept h hf.grown (by
  rcases hv:Value.ownBlock _ with _|k
  ·exact .inl rfl
  ·right;have:=(own_lt h hv).1;intro e;injection e;omega)
/-- a fresh parser -/
theorem PsAt.fresh {B en:Nat} {v:Value} {l:List Tk} {w:World} (h:Toks B v l w) (hl:l.length≤10000) (hok:∀ k ∈ l,TkOk k) (hen:en≤10000):PsAt w.heap.size en 0 l (w.alloc (.cells #[v,.int .i64 en,.int .i64 0] 67)):=by
 refine⟨hen,by omega,v,⟨hl,hok,?_⟩,heap_alloc_new w _⟩;have hbk:=(Below.refl w.heap.size w).alloc (Nat.le_refl _) (.cells #[v,.int .i64 en,.int .i64 0] 67);rcases h.2 with ⟨rfl,h0⟩|⟨g,cap,cur,rfl,hg,hgc,hcap,_⟩
 ·exact⟨none,0,by rw[h0],by omega,fun h1=>by omega⟩
 ·refine⟨_,cap,rfl,hcap,fun h1=>?_⟩;obtain⟨g2,cap2,e,hg2,hc⟩:=h.form h1;cases e
  exact⟨g,0,rfl,Nat.lt_of_lt_of_le hg2 hbk.size,hg2,fun i j hi hj=>by rw[Nat.zero_add];exact(hbk.cell (p:=⟨g,i*6+j,none⟩) hg2).trans (hc i j hi hj)⟩
/-- what Parse leaves -/
def ParsePost (p:ET × Nat × Int) (w:World) (e:Ending) (w':World):Prop :=
 ∃ d cs,e=.returned (.tuple #[.agg cs,.int .i64 (p.2.1:Nat),.int .i64 p.2.2])∧ExIn (fun g=>w.heap.size≤g) w' d p.1 cs∧Below w.heap.size w w'
theorem noET_in (S:Nat→Prop) (w:World):∃ d,ExIn S w d noET #[.int .i64 0,.string ⟨#[]⟩,.int .i64 0,.int .i64 0,.float .f64 0,.string ⟨#[]⟩,.slice none 0 0,.slice none 0 0,.slice none 0 0,.slice none 0 0]:=⟨_,ExIn.leaf S w 0 [] (by decide) (by simp) 0 0 0 [] (by decide) (by decide) (by unfold F64;omega) (by simp)⟩
theorem pos_of {en:Nat} {r r':List Tk} (h:r' <:+ r):posN en r'=if r'.length=0 then en else(r.getD (r.length - r'.length) noTk).pos:=by
 obtain⟨a,rfl⟩:=h;cases r' with
 | nil=>rw[if_pos (by simp)];rfl
 | cons k q =>
  rw[if_neg (by simp)];have e:(a++k::q).length - (k::q).length=a.length:=by simp
  rw[e];simp[List.getD,posN,nextT]
/-- the three results, made -/
theorem par_boxes (w:World):Below w.heap.size w (((w.alloc (.cells #[.int .i64 0,.string ⟨#[]⟩,.int .i64 0,.int .i64 0,.float .f64 0,.string ⟨#[]⟩,.slice none 0 0,.slice none 0 0,.slice none 0 0,.slice none 0 0] 29)).alloc (.cells #[.int .i64 0] 3)).alloc (.cells #[.int .i64 0] 32))∧(((w.alloc (.cells #[.int .i64 0,.string ⟨#[]⟩,.int .i64 0,.int .i64 0,.float .f64 0,.string ⟨#[]⟩,.slice none 0 0,.slice none 0 0,.slice none 0 0,.slice none 0 0] 29)).alloc (.cells #[.int .i64 0] 3)).alloc (.cells #[.int .i64 0] 32)).heap[w.heap.size]?=some (.cells #[.int .i64 0,.string ⟨#[]⟩,.int .i64 0,.int .i64 0,.float .f64 0,.string ⟨#[]⟩,.slice none 0 0,.slice none 0 0,.slice none 0 0,.slice none 0 0] 29 (0,0))∧(((w.alloc (.cells #[.int .i64 0,.string ⟨#[]⟩,.int .i64 0,.int .i64 0,.float .f64 0,.string ⟨#[]⟩,.slice none 0 0,.slice none 0 0,.slice none 0 0,.slice none 0 0] 29)).alloc (.cells #[.int .i64 0] 3)).alloc (.cells #[.int .i64 0] 32)).heap[w.heap.size+1]?=some (.cells #[.int .i64 0] 3)∧(((w.alloc (.cells #[.int .i64 0,.string ⟨#[]⟩,.int .i64 0,.int .i64 0,.float .f64 0,.string ⟨#[]⟩,.slice none 0 0,.slice none 0 0,.slice none 0 0,.slice none 0 0] 29)).alloc (.cells #[.int .i64 0] 3)).alloc (.cells #[.int .i64 0] 32)).heap[w.heap.size+2]?=some (.cells #[.int .i64 0] 32):=by
 obtain⟨h1,h2,h3⟩:=two_boxes w (.cells #[.int .i64 0,.string ⟨#[]⟩,.int .i64 0,.int .i64 0,.float .f64 0,.string ⟨#[]⟩,.slice none 0 0,.slice none 0 0,.slice none 0 0,.slice none 0 0] 29) (.cells #[.int .i64 0] 3);have h4:=heap_alloc_new ((w.alloc (.cells #[.int .i64 0,.string ⟨#[]⟩,.int .i64 0,.int .i64 0,.float .f64 0,.string ⟨#[]⟩,.slice none 0 0,.slice none 0 0,.slice none 0 0,.slice none 0 0] 29)).alloc (.cells #[.int .i64 0] 3)) (.cells #[.int .i64 0] 32);have hb:=(Below.refl ((w.alloc (.cells #[.int .i64 0,.string ⟨#[]⟩,.int .i64 0,.int .i64 0,.float .f64 0,.string ⟨#[]⟩,.slice none 0 0,.slice none 0 0,.slice none 0 0,.slice none 0 0] 29)).alloc (.cells #[.int .i64 0] 3)).heap.size ((w.alloc (.cells #[.int .i64 0,.string ⟨#[]⟩,.int .i64 0,.int .i64 0,.float .f64 0,.string ⟨#[]⟩,.slice none 0 0,.slice none 0 0,.slice none 0 0,.slice none 0 0] 29)).alloc (.cells #[.int .i64 0] 3))).alloc (Nat.le_refl _) (.cells #[.int .i64 0] 32);rw[show((w.alloc (.cells #[.int .i64 0,.string ⟨#[]⟩,.int .i64 0,.int .i64 0,.float .f64 0,.string ⟨#[]⟩,.slice none 0 0,.slice none 0 0,.slice none 0 0,.slice none 0 0] 29)).alloc (.cells #[.int .i64 0] 3)).heap.size=w.heap.size+2 by simp]at h4;exact⟨h1.trans (hb.mono h1.size),(hb.block _ (lt_of_block h2)).trans h2,(hb.block _ (lt_of_block h3)).trans h3,h4⟩
/-- the results' three blocks hold these -/
def ResAt (H:Nat) (w:World) (cs:Array Value) (a e:Int):Prop:=w.heap[H]?=some (.cells cs 29 (0,0))∧w.heap[H+1]?=some (.cells #[.int .i64 a] 3)∧w.heap[H+1+1]?=some (.cells #[.int .i64 e] 32)
theorem ResAt.fr {H b:Nat} {w w':World} {cs:Array Value} {a e:Int} (h:ResAt H w cs a e) (hf:Fr [b] w w') (hb:H+1+1<b):ResAt H w' cs a e:=⟨hf.at h.1 (by simp;omega),hf.at h.2.1 (by simp;omega),hf.at h.2.2 (by simp;omega)⟩
theorem ResAt.below {H:Nat} {w w':World} {cs:Array Value} {a e:Int} (h:ResAt H w cs a e) (hb:Below w.heap.size w w'):ResAt H w' cs a e:=⟨(hb.block _ (lt_of_block h.1)).trans h.1,(hb.block _ (lt_of_block h.2.1)).trans h.2.1,(hb.block _ (lt_of_block h.2.2)).trans h.2.2⟩
/-- the last two are stored -/
theorem ResAt.put {H:Nat} {w:World} {cs:Array Value} {a e:Int} (h:ResAt H w cs a e) (a' e':Int):ResAt H ((w.setCell ⟨H+1,0,none⟩ (.int .i64 a')).setCell ⟨H+1+1,0,none⟩ (.int .i64 e')) cs a' e'∧Below H w ((w.setCell ⟨H+1,0,none⟩ (.int .i64 a')).setCell ⟨H+1+1,0,none⟩ (.int .i64 e')):=by
 obtain⟨h1,h2,h3⟩:=h;have f1:=(Fr.refl [H+1] w).setCell ⟨H+1,0,none⟩ (by simp) (.int .i64 a');have g1:=heap_setN h2 0 (.int .i64 a');have g2:=f1.at h1 (by simp);have g3:=f1.at h3 (by simp);generalize w.setCell ⟨H+1,0,none⟩ (.int .i64 a')=w1 at *;have f2:=(Fr.refl [H+1+1] w1).setCell ⟨H+1+1,0,none⟩ (by simp) (.int .i64 e');have k1:=heap_setN g3 0 (.int .i64 e');have hl:=lt_of_block h1;have hl2:=f1.size;exact⟨⟨f2.at g2 (by simp;omega),f2.at g1 (by simp),k1⟩,(f1.below (by omega) (by simp)).trans (f2.below (by omega) (by simp;omega))⟩
theorem pParse_long (s:ByteArray) (w:World) (hl:2000<s.size):Calls Tryz.prog 15 #[.string s] w (ParsePost (noET,0,3) w):=by
 have hsf:∀ (a:Addr) (x:Nat) (m:Mode) (w:World),(store a (.float .f64 x) m).run Tryz.prog w=stored Tryz.prog w a (.float .f64 x) m:=fun a x m w=>run_store _ w a _ m rfl
 have hmf:∀ (fn:Fn) (first cap:Array Value) (w:World),(Instr.makeFunc fn first cap).run Tryz.prog w=.ok (.func fn first cap) w:=fun _ _ _ _=>rfl
 obtain⟨hb1,hX1,hA1,hE1⟩:=par_boxes w;have hR1:ResAt w.heap.size (((w.alloc (.cells #[.int .i64 0,.string ⟨#[]⟩,.int .i64 0,.int .i64 0,.float .f64 0,.string ⟨#[]⟩,.slice none 0 0,.slice none 0 0,.slice none 0 0,.slice none 0 0] 29)).alloc (.cells #[.int .i64 0] 3)).alloc (.cells #[.int .i64 0] 32)) #[.int .i64 0,.string ⟨#[]⟩,.int .i64 0,.int .i64 0,.float .f64 0,.string ⟨#[]⟩,.slice none 0 0,.slice none 0 0,.slice none 0 0,.slice none 0 0] 0 0:=⟨hX1,hA1,hE1⟩;have t0:decide ((2000:Int)<(s.size:Int))=true:=by simp;omega
 go_enter_defers Tryz.func15,Tryz.ntmps15
 go_upto_region 1 with (fail)
 generalize (((w.alloc (.cells #[.int .i64 0,.string ⟨#[]⟩,.int .i64 0,.int .i64 0,.float .f64 0,.string ⟨#[]⟩,.slice none 0 0,.slice none 0 0,.slice none 0 0,.slice none 0 0] 29)).alloc (.cells #[.int .i64 0] 3)).alloc (.cells #[.int .i64 0] 32))=w1 at *;obtain⟨x0,x1,x2,x3,x4,x5,x6,x7,x8,x9⟩:=cellsO10 hX1;obtain⟨z0,z1,z2,z3,z4,z5,z6,z7,z8,z9⟩:=free10 hX1;have a2:=zc hR1.2.1 0;have e2:=zc hR1.2.2 0;have az:=Lib.frozen_of_heap hR1.2.1 0;have ez:=Lib.frozen_of_heap hR1.2.2 0;simp only[List.getElem?_toArray,List.getElem?_cons_zero]at a2 e2;go_wp2_with fail
 obtain⟨hst,hff⟩:=put10 hX1 (.int .i64 0) (.string ⟨#[]⟩) (.int .i64 0) (.int .i64 0) (.float .f64 0) (.string ⟨#[]⟩) (.slice none 0 0) (.slice none 0 0) (.slice none 0 0) (.slice none 0 0);generalize ((((((((((w1).setCell ⟨w.heap.size,0,none⟩ (.int .i64 0)).setCell ⟨w.heap.size,1,none⟩ (.string ⟨#[]⟩)).setCell ⟨w.heap.size,2,none⟩ (.int .i64 0)).setCell ⟨w.heap.size,3,none⟩ (.int .i64 0)).setCell ⟨w.heap.size,4,none⟩ (.float .f64 0)).setCell ⟨w.heap.size,5,none⟩ (.string ⟨#[]⟩)).setCell ⟨w.heap.size,6,none⟩ (.slice none 0 0)).setCell ⟨w.heap.size,7,none⟩ (.slice none 0 0)).setCell ⟨w.heap.size,8,none⟩ (.slice none 0 0)).setCell ⟨w.heap.size,9,none⟩ (.slice none 0 0)=w2 at *;have hR2:ResAt w.heap.size w2 #[.int .i64 0,.string ⟨#[]⟩,.int .i64 0,.int .i64 0,.float .f64 0,.string ⟨#[]⟩,.slice none 0 0,.slice none 0 0,.slice none 0 0,.slice none 0 0] 0 0:=⟨hst,hff.at hA1 (by simp),hff.at hE1 (by simp;omega)⟩;have hb02:=hb1.trans (hff.below (B:=w.heap.size) hb1.size (by simp));obtain⟨hR3,hb3⟩:=hR2.put 0 3;generalize (w2.setCell ⟨w.heap.size+1,0,none⟩ (.int .i64 0)).setCell ⟨w.heap.size+1+1,0,none⟩ (.int .i64 3)=w3 at *;have hb03:=hb02.trans hb3;obtain⟨y0,y1,y2,y3,y4,y5,y6,y7,y8,y9⟩:=cellsO10 hR3.1;have q0:=zc hR3.2.1 0;have q1:=zc hR3.2.2 0;simp only[List.getElem?_toArray,List.getElem?_cons_zero]at q0 q1;simp[bodyPostD,Leaves,results,Tryz.results15,go_sem,y0,y1,y2,y3,y4,y5,y6,y7,y8,y9,q0,q1];obtain⟨d,hd⟩:=noET_in (fun g=>w.heap.size≤g) w3;exact⟨d,_,rfl,hd,hb03⟩
theorem pParse_err (s:ByteArray) (w:World) (hEn:Env w) (hl:s.size≤2000) (he:(tokens s.data.toList).2.2≠0):Calls Tryz.prog 15 #[.string s] w (ParsePost (noET,(tokens s.data.toList).2.1,(tokens s.data.toList).2.2) w):=by
 have hsf:∀ (a:Addr) (x:Nat) (m:Mode) (w:World),(store a (.float .f64 x) m).run Tryz.prog w=stored Tryz.prog w a (.float .f64 x) m:=fun a x m w=>run_store _ w a _ m rfl
 have hmf:∀ (fn:Fn) (first cap:Array Value) (w:World),(Instr.makeFunc fn first cap).run Tryz.prog w=.ok (.func fn first cap) w:=fun _ _ _ _=>rfl
 obtain⟨hb1,hX1,hA1,hE1⟩:=par_boxes w;have hR1:ResAt w.heap.size (((w.alloc (.cells #[.int .i64 0,.string ⟨#[]⟩,.int .i64 0,.int .i64 0,.float .f64 0,.string ⟨#[]⟩,.slice none 0 0,.slice none 0 0,.slice none 0 0,.slice none 0 0] 29)).alloc (.cells #[.int .i64 0] 3)).alloc (.cells #[.int .i64 0] 32)) #[.int .i64 0,.string ⟨#[]⟩,.int .i64 0,.int .i64 0,.float .f64 0,.string ⟨#[]⟩,.slice none 0 0,.slice none 0 0,.slice none 0 0,.slice none 0 0] 0 0:=⟨hX1,hA1,hE1⟩;have t0:decide ((2000:Int)<(s.size:Int))=false:=by simp;omega
 have t0':¬ 2000<s.size:=by omega
 have HAll:=zh (all_any s _ (hEn.below hb1));generalize (tokens s.data.toList)=tk at *;obtain⟨tks,at',er⟩:=tk;dsimp only at he HAll;have t1:(er != 0)=true:=bne_iff_ne.2 he;go_enter_defers Tryz.func15,Tryz.ntmps15
 go_upto_region 1 with (fail)
 generalize (((w.alloc (.cells #[.int .i64 0,.string ⟨#[]⟩,.int .i64 0,.int .i64 0,.float .f64 0,.string ⟨#[]⟩,.slice none 0 0,.slice none 0 0,.slice none 0 0,.slice none 0 0] 29)).alloc (.cells #[.int .i64 0] 3)).alloc (.cells #[.int .i64 0] 32))=w1 at *;go_wp2_with fail
 refine(HAll.out).mono ?_;rintro e w2 ⟨v,rfl,hb2,htk⟩;have hR2:=hR1.below hb2;have hb02:=hb1.trans (hb2.mono hb1.size);have a2:=zc hR2.2.1 0;have e2:=zc hR2.2.2 0;have az:=Lib.frozen_of_heap hR2.2.1 0;have ez:=Lib.frozen_of_heap hR2.2.2 0;simp only[List.getElem?_toArray,List.getElem?_cons_zero]at a2 e2;go_upto_region 4 with (fail)
 obtain⟨hR3,hb3⟩:=hR2.put at' er;generalize (w2.setCell ⟨w.heap.size+1,0,none⟩ (.int .i64 (at':Nat))).setCell ⟨w.heap.size+1+1,0,none⟩ (.int .i64 er)=w3 at *;have hb03:=hb02.trans (hb3.mono (Nat.le_refl _));clear a2 e2 az ez hR2 hR1 hb2 hb3 hb02 hX1 hA1 hE1;have hX3:=hR3.1;have a2:=zc hR3.2.1 0;have e2:=zc hR3.2.2 0;have az:=Lib.frozen_of_heap hR3.2.1 0;have ez:=Lib.frozen_of_heap hR3.2.2 0;simp only[List.getElem?_toArray,List.getElem?_cons_zero]at a2 e2;obtain⟨x0,x1,x2,x3,x4,x5,x6,x7,x8,x9⟩:=cellsO10 hX3;obtain⟨z0,z1,z2,z3,z4,z5,z6,z7,z8,z9⟩:=free10 hX3;go_wp2_with fail
 go_region_law (fail)
 all_goals
  go_wp2_with fail
  obtain⟨hst,hff⟩:=put10 hX3 (.int .i64 0) (.string ⟨#[]⟩) (.int .i64 0) (.int .i64 0) (.float .f64 0) (.string ⟨#[]⟩) (.slice none 0 0) (.slice none 0 0) (.slice none 0 0) (.slice none 0 0);generalize ((((((((((w3).setCell ⟨w.heap.size,0,none⟩ (.int .i64 0)).setCell ⟨w.heap.size,1,none⟩ (.string ⟨#[]⟩)).setCell ⟨w.heap.size,2,none⟩ (.int .i64 0)).setCell ⟨w.heap.size,3,none⟩ (.int .i64 0)).setCell ⟨w.heap.size,4,none⟩ (.float .f64 0)).setCell ⟨w.heap.size,5,none⟩ (.string ⟨#[]⟩)).setCell ⟨w.heap.size,6,none⟩ (.slice none 0 0)).setCell ⟨w.heap.size,7,none⟩ (.slice none 0 0)).setCell ⟨w.heap.size,8,none⟩ (.slice none 0 0)).setCell ⟨w.heap.size,9,none⟩ (.slice none 0 0)=w4 at *;have hR4:ResAt w.heap.size w4 #[.int .i64 0,.string ⟨#[]⟩,.int .i64 0,.int .i64 0,.float .f64 0,.string ⟨#[]⟩,.slice none 0 0,.slice none 0 0,.slice none 0 0,.slice none 0 0] (at':Nat) er:=⟨hst,hff.at hR3.2.1 (by simp),hff.at hR3.2.2 (by simp;omega)⟩;have hb04:=hb03.trans (hff.below (B:=w.heap.size) hb03.size (by simp));obtain⟨hR5,hb5⟩:=hR4.put (at':Nat) er;generalize (w4.setCell ⟨w.heap.size+1,0,none⟩ (.int .i64 (at':Nat))).setCell ⟨w.heap.size+1+1,0,none⟩ (.int .i64 er)=w5 at *;have hb05:=(hb04.trans hb5).drew;have hR6:ResAt w.heap.size w5.drew #[.int .i64 0,.string ⟨#[]⟩,.int .i64 0,.int .i64 0,.float .f64 0,.string ⟨#[]⟩,.slice none 0 0,.slice none 0 0,.slice none 0 0,.slice none 0 0] (at':Nat) er:=hR5;generalize w5.drew=w6 at *;obtain⟨y0,y1,y2,y3,y4,y5,y6,y7,y8,y9⟩:=cellsO10 hR6.1;have q0:=zc hR6.2.1 0;have q1:=zc hR6.2.2 0;simp only[List.getElem?_toArray,List.getElem?_cons_zero]at q0 q1;simp[bodyPostD,Leaves,results,Tryz.results15,go_sem,y0,y1,y2,y3,y4,y5,y6,y7,y8,y9,q0,q1];obtain⟨d,hd⟩:=noET_in (fun g=>w.heap.size≤g) w6;exact⟨d,_,rfl,hd,hb05⟩
end
section
open Go.RowKit
theorem Toks.sl {B:Nat} {v:Value} {l:List Tk} {w:World} (h:Toks B v l w):∃ p n c,v=.slice p n c:=by
 rcases h.2 with ⟨rfl,_⟩|⟨g,cap,_,rfl,_⟩
 ·exact⟨_,_,_,rfl⟩
 ·exact⟨_,_,_,rfl⟩
theorem fault_inj {x y:Int} {n m:Nat} (h:faulted x n=faulted y m):x=y∧n=m:=by
 unfold faulted at h;simp only[Ending.panicked.injEq,List.cons.injEq,and_true]at h;injection h with h1 _
 injection h1 with _ h2
 simp only[Value.agg.injEq,Array.mk.injEq,List.cons.injEq,Value.int.injEq,true_and,and_true]at h2;exact⟨h2.1,by omega⟩
theorem parse_gave {l:List UInt8} {tks:List Tk} {er:PErr} {x:Int} {n:Nat} (hl:l.length≤2000) (ht:tokens l=(tks,0,0)) (he:(exUn 100).1 (tks.map Tk.te)=.error er) (h:ErrAt l.length tks er (faulted x n)):parseX l=(noET,n,x):=by
 unfold parseX;rw[if_neg (by omega),ht];dsimp only;rw[if_neg (by simp),he];cases er with
 | deep =>
  obtain⟨rfl,rfl⟩:=fault_inj h;rfl
 | form k =>
  obtain⟨r',h1,h2,h3⟩:=h;obtain⟨rfl,rfl⟩:=fault_inj h3;rw[pos_of h1,h2]
theorem parse_more {l:List UInt8} {tks r':List Tk} {x:ET} {l2:List Te} (hl:l.length≤2000) (ht:tokens l=(tks,0,0)) (he:(exUn 100).1 (tks.map Tk.te)=.ok (x,l2)) (hs:r' <:+ tks) (hr:r'.map Tk.te=l2) (h0:r'≠[]):parseX l=(noET,posN l.length r',5):=by
 unfold parseX;rw[if_neg (by omega),ht];dsimp only;rw[if_neg (by simp),he];dsimp only;have hne:l2≠[]:=by rw[←hr];intro h;exact h0 (List.map_eq_nil_iff.1 h)
 rw[if_pos hne,pos_of hs,←hr,List.length_map]
theorem parse_done {l:List UInt8} {tks:List Tk} {x:ET} (hl:l.length≤2000) (ht:tokens l=(tks,0,0)) (he:(exUn 100).1 (tks.map Tk.te)=.ok (x,[])):parseX l=if rightEx x then(x,0,0) else(noET,0,15):=by
 unfold parseX;rw[if_neg (by omega),ht];dsimp only;rw[if_neg (by simp),he];dsimp only;rw[if_neg (by simp)]
theorem pParse_gave (s:ByteArray) (w:World) (hEn:Env w) (hl:s.size≤2000) (tks:List Tk) (htok:tokens s.data.toList=(tks,0,0)) (htl:tks.length≤10000) (hok:∀ k ∈ tks,TkOk k) (er:PErr) (hex:(exUn 100).1 (tks.map Tk.te)=.error er):Calls Tryz.prog 15 #[.string s] w (ParsePost (parseX s.data.toList) w):=by
 have hsf:∀ (a:Addr) (x:Nat) (m:Mode) (w:World),(store a (.float .f64 x) m).run Tryz.prog w=stored Tryz.prog w a (.float .f64 x) m:=fun a x m w=>run_store _ w a _ m rfl
 have hmf:∀ (fn:Fn) (first cap:Array Value) (w:World),(Instr.makeFunc fn first cap).run Tryz.prog w=.ok (.func fn first cap) w:=fun _ _ _ _=>rfl
 obtain⟨hb1,hX1,hA1,hE1⟩:=par_boxes w;have hR1:ResAt w.heap.size (((w.alloc (.cells #[.int .i64 0,.string ⟨#[]⟩,.int .i64 0,.int .i64 0,.float .f64 0,.string ⟨#[]⟩,.slice none 0 0,.slice none 0 0,.slice none 0 0,.slice none 0 0] 29)).alloc (.cells #[.int .i64 0] 3)).alloc (.cells #[.int .i64 0] 32)) #[.int .i64 0,.string ⟨#[]⟩,.int .i64 0,.int .i64 0,.float .f64 0,.string ⟨#[]⟩,.slice none 0 0,.slice none 0 0,.slice none 0 0,.slice none 0 0] 0 0:=⟨hX1,hA1,hE1⟩;have t0:decide ((2000:Int)<(s.size:Int))=false:=by simp;omega
 have t0':¬ 2000<s.size:=by omega
 have HAll:=zh (all_any s _ (hEn.below hb1));have hl2:s.size≤10000:=by omega
 rw[htok]at HAll;have hll:s.data.toList.length=s.size:=by simp
 have HG:=zh (fun(x:Int) (n:Nat) (h:ErrAt s.size tks er (faulted x n))=>parse_gave (l:=s.data.toList) (by omega) htok hex (by rw[hll];exact h));generalize parseX s.data.toList=R at *;clear htok hll;go_enter_defers Tryz.func15,Tryz.ntmps15
 go_upto_region 1 with (fail)
 generalize (((w.alloc (.cells #[.int .i64 0,.string ⟨#[]⟩,.int .i64 0,.int .i64 0,.float .f64 0,.string ⟨#[]⟩,.slice none 0 0,.slice none 0 0,.slice none 0 0,.slice none 0 0] 29)).alloc (.cells #[.int .i64 0] 3)).alloc (.cells #[.int .i64 0] 32))=w1 at *;go_wp2_with fail
 refine(HAll.out).mono ?_;rintro e w2 ⟨v,rfl,hb2,htk⟩;obtain⟨vp,vn,vc,rfl⟩:=htk.sl;have hR2:=hR1.below hb2;have hb02:=hb1.trans (hb2.mono hb1.size);have hB1:w.heap.size+1+1<w1.heap.size:=lt_of_block hR1.2.2;have a2:=zc hR2.2.1 0;have e2:=zc hR2.2.2 0;have az:=Lib.frozen_of_heap hR2.2.1 0;have ez:=Lib.frozen_of_heap hR2.2.2 0;simp only[List.getElem?_toArray,List.getElem?_cons_zero]at a2 e2;go_upto_region 4 with (fail)
 obtain⟨hR3,hb3⟩:=hR2.put 0 0;have htk3:=(htk.fr ((Fr.refl [w.heap.size+1] w2).setCell ⟨w.heap.size+1,0,none⟩ (by simp) (.int .i64 0)) (by omega)).fr ((Fr.refl [w.heap.size+1+1] _).setCell ⟨w.heap.size+1+1,0,none⟩ (by simp) (.int .i64 0)) (by omega);generalize (w2.setCell ⟨w.heap.size+1,0,none⟩ (.int .i64 0)).setCell ⟨w.heap.size+1+1,0,none⟩ (.int .i64 0)=w3 at *;have hb03:=hb02.trans hb3;clear a2 e2 az ez hR2 hR1 hb3 hb02 hX1 hA1 hE1 htk HAll;have e3:=zc hR3.2.2 0;simp only[List.getElem?_toArray,List.getElem?_cons_zero]at e3;have hps:=PsAt.fresh htk3 htl hok hl2 (en:=s.size);have hbk:=(Below.refl w3.heap.size w3).alloc (Nat.le_refl _) (.cells #[.slice vp vn vc,.int .i64 (s.size:Nat),.int .i64 0] 67);have hR4:=hR3.below hbk;have hb04:=hb03.trans (hbk.mono hb03.size);have hbB:w.heap.size+1+1<w3.heap.size:=lt_of_block hR3.2.2;have HX:=zh ((reads_all w3.heap.size s.size 100 0 rfl).1 tks _ hps);rw[hex]at HX;clear hps htk3 hbk hR3 hb03;go_wp2_with fail
 refine(HX.out).mono ?_;intro e w5 h5;obtain⟨x,n,rfl,h5,hf5⟩:=PrPost.bad_out rfl h5;have hR5:=hR4.fr hf5 (by omega);have hb05:=hb04.trans (hf5.below (B:=w.heap.size) (by simp<;>omega) (by simp<;>omega))
 have HR:=zh (HG.out x n h5);go_wp2_with fail
 refine leaves_cons (f:=31) (args:=#[.pointer (some ⟨w.heap.size,0,none⟩),.pointer (some ⟨w.heap.size+1,0,none⟩),.pointer (some ⟨w.heap.size+1+1,0,none⟩)]) (by simp) (by simp[go_sem]) ?_;refine(parse1_up w.heap.size (w.heap.size+1) (w.heap.size+1+1) x (n:Nat) _ _ _ (by omega) (by omega) (by omega) hR5.1 hR5.2.1 hR5.2.2).mono ?_;rintro e u' w'' ⟨rfl,rfl,hX6,hA6,hE6,hf6⟩;have hb06:=hb05.trans (hf6.below (B:=w.heap.size) hb05.size (by simp<;>omega))
 obtain⟨y0,y1,y2,y3,y4,y5,y6,y7,y8,y9⟩:=cellsO10 hX6;have q0:=zc hA6 0;have q1:=zc hE6 0;simp only[List.getElem?_toArray,List.getElem?_cons_zero]at q0 q1;simp[Leaves,settle,results,Tryz.results15,go_sem,y0,y1,y2,y3,y4,y5,y6,y7,y8,y9,q0,q1];obtain⟨d,hd⟩:=noET_in (fun g=>w.heap.size≤g) w'';exact⟨d,_,by rw[HR.out],by rw[HR.out];exact hd,hb06⟩
theorem pParse_more (s:ByteArray) (w:World) (hEn:Env w) (hl:s.size≤2000) (tks:List Tk) (htok:tokens s.data.toList=(tks,0,0)) (htl:tks.length≤10000) (hok:∀ k ∈ tks,TkOk k) (x:ET) (l2:List Te) (hex:(exUn 100).1 (tks.map Tk.te)=.ok (x,l2)) (h0:l2≠[]):Calls Tryz.prog 15 #[.string s] w (ParsePost (parseX s.data.toList) w):=by
 have hsf:∀ (a:Addr) (x:Nat) (m:Mode) (w:World),(store a (.float .f64 x) m).run Tryz.prog w=stored Tryz.prog w a (.float .f64 x) m:=fun a x m w=>run_store _ w a _ m rfl
 have hmf:∀ (fn:Fn) (first cap:Array Value) (w:World),(Instr.makeFunc fn first cap).run Tryz.prog w=.ok (.func fn first cap) w:=fun _ _ _ _=>rfl
 obtain⟨hb1,hX1,hA1,hE1⟩:=par_boxes w;have hR1:ResAt w.heap.size (((w.alloc (.cells #[.int .i64 0,.string ⟨#[]⟩,.int .i64 0,.int .i64 0,.float .f64 0,.string ⟨#[]⟩,.slice none 0 0,.slice none 0 0,.slice none 0 0,.slice none 0 0] 29)).alloc (.cells #[.int .i64 0] 3)).alloc (.cells #[.int .i64 0] 32)) #[.int .i64 0,.string ⟨#[]⟩,.int .i64 0,.int .i64 0,.float .f64 0,.string ⟨#[]⟩,.slice none 0 0,.slice none 0 0,.slice none 0 0,.slice none 0 0] 0 0:=⟨hX1,hA1,hE1⟩;have t0:decide ((2000:Int)<(s.size:Int))=false:=by simp;omega
 have t0':¬ 2000<s.size:=by omega
 have HAll:=zh (all_any s _ (hEn.below hb1));have hl2:s.size≤10000:=by omega
 rw[htok]at HAll;have hll:s.data.toList.length=s.size:=by simp
 have hpl:0<l2.length:=List.length_pos_iff.2 h0;have HG:=zh (fun(r':List Tk) (hs:r' <:+ tks) (hr:r'.map Tk.te=l2)=>(show parseX s.data.toList=(noET,posN s.size r',5) from by
  rw[←hll];exact parse_more (l:=s.data.toList) (by omega) htok hex hs hr (by intro h;rw[h]at hr;exact h0 hr.symm)))
 generalize parseX s.data.toList=R at *;clear htok hll h0;go_enter_defers Tryz.func15,Tryz.ntmps15
 go_upto_region 1 with (fail)
 generalize (((w.alloc (.cells #[.int .i64 0,.string ⟨#[]⟩,.int .i64 0,.int .i64 0,.float .f64 0,.string ⟨#[]⟩,.slice none 0 0,.slice none 0 0,.slice none 0 0,.slice none 0 0] 29)).alloc (.cells #[.int .i64 0] 3)).alloc (.cells #[.int .i64 0] 32))=w1 at *;go_wp2_with fail
 refine(HAll.out).mono ?_;rintro e w2 ⟨v,rfl,hb2,htk⟩;obtain⟨vp,vn,vc,rfl⟩:=htk.sl;have hR2:=hR1.below hb2;have hb02:=hb1.trans (hb2.mono hb1.size);have hB1:w.heap.size+1+1<w1.heap.size:=lt_of_block hR1.2.2;have a2:=zc hR2.2.1 0;have e2:=zc hR2.2.2 0;have az:=Lib.frozen_of_heap hR2.2.1 0;have ez:=Lib.frozen_of_heap hR2.2.2 0;simp only[List.getElem?_toArray,List.getElem?_cons_zero]at a2 e2;go_upto_region 4 with (fail)
 obtain⟨hR3,hb3⟩:=hR2.put 0 0;have htk3:=(htk.fr ((Fr.refl [w.heap.size+1] w2).setCell ⟨w.heap.size+1,0,none⟩ (by simp) (.int .i64 0)) (by omega)).fr ((Fr.refl [w.heap.size+1+1] _).setCell ⟨w.heap.size+1+1,0,none⟩ (by simp) (.int .i64 0)) (by omega);generalize (w2.setCell ⟨w.heap.size+1,0,none⟩ (.int .i64 0)).setCell ⟨w.heap.size+1+1,0,none⟩ (.int .i64 0)=w3 at *;have hb03:=hb02.trans hb3;clear a2 e2 az ez hR2 hR1 hb3 hb02 hX1 hA1 hE1 htk HAll;have e3:=zc hR3.2.2 0;simp only[List.getElem?_toArray,List.getElem?_cons_zero]at e3;have hps:=PsAt.fresh htk3 htl hok hl2 (en:=s.size);have hbk:=(Below.refl w3.heap.size w3).alloc (Nat.le_refl _) (.cells #[.slice vp vn vc,.int .i64 (s.size:Nat),.int .i64 0] 67);have hR4:=hR3.below hbk;have hb04:=hb03.trans (hbk.mono hb03.size);have hbB:w.heap.size+1+1<w3.heap.size:=lt_of_block hR3.2.2;have HX:=zh ((reads_all w3.heap.size s.size 100 0 rfl).1 tks _ hps);rw[hex]at HX;clear hps htk3 hbk hR3 hb03;go_wp2_with fail
 refine(HX.out).mono ?_;intro e w5 h5;obtain⟨na,nl,nc,ia,il,ic,ma,ml,mc,ka,kl,kc,d,r',rfl,hx,hs5,hl5,hp5,hf5⟩:=PrPost.good_out rfl h5;have hR5:=hR4.fr hf5 (by omega);have hb05:=hb04.trans (hf5.below (B:=w.heap.size) (by simp<;>omega) (by simp<;>omega))
 have hxk:=(hx.wider (T:=fun g=>w.heap.size+1+1<g) (fun g hg=>by have hg:(w3.alloc (.cells #[.slice vp vn vc,.int .i64 (s.size:Nat),.int .i64 0] 67)).heap.size≤g:=hg;simp at hg;omega));have hby:=(Below.refl w5.heap.size w5).alloc (Nat.le_refl _) (.cells #[.int .i64 x.kind,.string ⟨x.str.toArray⟩,.int .i64 x.v.kind,.int .i64 x.v.num,.float .f64 x.v.flt,.string ⟨x.v.str.toArray⟩,.slice na nl nc,.slice ia il ic,.slice ma ml mc,.slice ka kl kc] 29);have hY:=heap_alloc_new w5 (.cells #[.int .i64 x.kind,.string ⟨x.str.toArray⟩,.int .i64 x.v.kind,.int .i64 x.v.num,.float .f64 x.v.flt,.string ⟨x.v.str.toArray⟩,.slice na nl nc,.slice ia il ic,.slice ma ml mc,.slice ka kl kc] 29);have hp6:=hp5.below hby
 have hxy:=hxk.below hby
 have hR6:=hR5.below hby
 have hb06:=hb05.trans (hby.mono hb05.size);have hlen5:r'.length=l2.length:=by rw[←hl5,List.length_map]
 have HL:=zh hlen5;have hYl:w.heap.size+1+1<w5.heap.size:=lt_of_block hR5.2.2;have hplist:=hp6;obtain⟨_,_,v',⟨_,_,pp,pc,rfl,_⟩,hpb⟩:=hplist;obtain⟨c0,_,_⟩:=cells3 hpb;clear hx hlen5 hR5 hb05 hp5 hf5 hpb;have hpos:0<r'.length:=by rw[HL.out];exact hpl
 have t1:decide ((0:Int)<(r'.length:Int))=true:=by simp;omega
 have HF:=zh (pfail_any w3.heap.size s.size 0 r' _ hp6);have HR:=zh (HG.out r' hs5 hl5);clear HG hs5 hl5 hp6 HL;go_wp2_with fail
 refine(HF.out).mono ?_;rintro e w7 ⟨rfl,hb7⟩;have hR5:=hR6.below hb7;have hb05:=hb06.trans (hb7.mono hb06.size);go_wp2_with fail
 refine leaves_cons (f:=31) (args:=#[.pointer (some ⟨w.heap.size,0,none⟩),.pointer (some ⟨w.heap.size+1,0,none⟩),.pointer (some ⟨w.heap.size+1+1,0,none⟩)]) (by simp) (by simp[go_sem]) ?_;refine(parse1_up w.heap.size (w.heap.size+1) (w.heap.size+1+1) 5 (posN s.size r':Nat) _ _ _ (by omega) (by omega) (by omega) hR5.1 hR5.2.1 hR5.2.2).mono ?_;rintro e u' w'' ⟨rfl,rfl,hX6,hA6,hE6,hf6⟩;have hb06:=hb05.trans (hf6.below (B:=w.heap.size) hb05.size (by simp<;>omega))
 obtain⟨y0,y1,y2,y3,y4,y5,y6,y7,y8,y9⟩:=cellsO10 hX6;have q0:=zc hA6 0;have q1:=zc hE6 0;simp only[List.getElem?_toArray,List.getElem?_cons_zero]at q0 q1;simp[Leaves,settle,results,Tryz.results15,go_sem,y0,y1,y2,y3,y4,y5,y6,y7,y8,y9,q0,q1];obtain⟨d,hd⟩:=noET_in (fun g=>w.heap.size≤g) w'';exact⟨d,_,by rw[HR.out],by rw[HR.out];exact hd,hb06⟩
theorem pParse_deep (s:ByteArray) (w:World) (hEn:Env w) (hl:s.size≤2000) (tks:List Tk) (htok:tokens s.data.toList=(tks,0,0)) (htl:tks.length≤10000) (hok:∀ k ∈ tks,TkOk k) (x:ET) (hex:(exUn 100).1 (tks.map Tk.te)=.ok (x,[])) (hrx:rightEx x=false):Calls Tryz.prog 15 #[.string s] w (ParsePost (parseX s.data.toList) w):=by
 have HR:=zh ((parse_done (l:=s.data.toList) (by simpa using hl) htok hex).trans (by rw[hrx]<;>rfl))
 generalize parseX s.data.toList=R at *;obtain⟨l2,hl2e⟩:∃ l2:List Te,l2=[]:=⟨_,rfl⟩;rw[←hl2e]at hex;have hsf:∀ (a:Addr) (x:Nat) (m:Mode) (w:World),(store a (.float .f64 x) m).run Tryz.prog w=stored Tryz.prog w a (.float .f64 x) m:=fun a x m w=>run_store _ w a _ m rfl
 have hmf:∀ (fn:Fn) (first cap:Array Value) (w:World),(Instr.makeFunc fn first cap).run Tryz.prog w=.ok (.func fn first cap) w:=fun _ _ _ _=>rfl
 obtain⟨hb1,hX1,hA1,hE1⟩:=par_boxes w;have hR1:ResAt w.heap.size (((w.alloc (.cells #[.int .i64 0,.string ⟨#[]⟩,.int .i64 0,.int .i64 0,.float .f64 0,.string ⟨#[]⟩,.slice none 0 0,.slice none 0 0,.slice none 0 0,.slice none 0 0] 29)).alloc (.cells #[.int .i64 0] 3)).alloc (.cells #[.int .i64 0] 32)) #[.int .i64 0,.string ⟨#[]⟩,.int .i64 0,.int .i64 0,.float .f64 0,.string ⟨#[]⟩,.slice none 0 0,.slice none 0 0,.slice none 0 0,.slice none 0 0] 0 0:=⟨hX1,hA1,hE1⟩;have t0:decide ((2000:Int)<(s.size:Int))=false:=by simp;omega
 have t0':¬ 2000<s.size:=by omega
 have HAll:=zh (all_any s _ (hEn.below hb1));have hl2:s.size≤10000:=by omega
 rw[htok]at HAll;clear htok;go_enter_defers Tryz.func15,Tryz.ntmps15
 go_upto_region 1 with (fail)
 generalize (((w.alloc (.cells #[.int .i64 0,.string ⟨#[]⟩,.int .i64 0,.int .i64 0,.float .f64 0,.string ⟨#[]⟩,.slice none 0 0,.slice none 0 0,.slice none 0 0,.slice none 0 0] 29)).alloc (.cells #[.int .i64 0] 3)).alloc (.cells #[.int .i64 0] 32))=w1 at *;go_wp2_with fail
 refine(HAll.out).mono ?_;rintro e w2 ⟨v,rfl,hb2,htk⟩;obtain⟨vp,vn,vc,rfl⟩:=htk.sl;have hR2:=hR1.below hb2;have hb02:=hb1.trans (hb2.mono hb1.size);have hB1:w.heap.size+1+1<w1.heap.size:=lt_of_block hR1.2.2;have a2:=zc hR2.2.1 0;have e2:=zc hR2.2.2 0;have az:=Lib.frozen_of_heap hR2.2.1 0;have ez:=Lib.frozen_of_heap hR2.2.2 0;simp only[List.getElem?_toArray,List.getElem?_cons_zero]at a2 e2;go_upto_region 4 with (fail)
 obtain⟨hR3,hb3⟩:=hR2.put 0 0;have htk3:=(htk.fr ((Fr.refl [w.heap.size+1] w2).setCell ⟨w.heap.size+1,0,none⟩ (by simp) (.int .i64 0)) (by omega)).fr ((Fr.refl [w.heap.size+1+1] _).setCell ⟨w.heap.size+1+1,0,none⟩ (by simp) (.int .i64 0)) (by omega);generalize (w2.setCell ⟨w.heap.size+1,0,none⟩ (.int .i64 0)).setCell ⟨w.heap.size+1+1,0,none⟩ (.int .i64 0)=w3 at *;have hb03:=hb02.trans hb3;clear a2 e2 az ez hR2 hR1 hb3 hb02 hX1 hA1 hE1 htk HAll;have e3:=zc hR3.2.2 0;simp only[List.getElem?_toArray,List.getElem?_cons_zero]at e3;have hps:=PsAt.fresh htk3 htl hok hl2 (en:=s.size);have hbk:=(Below.refl w3.heap.size w3).alloc (Nat.le_refl _) (.cells #[.slice vp vn vc,.int .i64 (s.size:Nat),.int .i64 0] 67);have hR4:=hR3.below hbk;have hb04:=hb03.trans (hbk.mono hb03.size);have hbB:w.heap.size+1+1<w3.heap.size:=lt_of_block hR3.2.2;have HX:=zh ((reads_all w3.heap.size s.size 100 0 rfl).1 tks _ hps);rw[hex]at HX;clear hps htk3 hbk hR3 hb03;go_wp2_with fail
 refine(HX.out).mono ?_;intro e w5 h5;obtain⟨na,nl,nc,ia,il,ic,ma,ml,mc,ka,kl,kc,d,r',rfl,hx,hs5,hl5,hp5,hf5⟩:=PrPost.good_out rfl h5;have hR5:=hR4.fr hf5 (by omega);have hb05:=hb04.trans (hf5.below (B:=w.heap.size) (by simp<;>omega) (by simp<;>omega))
 have hxk:=(hx.wider (T:=fun g=>w.heap.size+1+1<g) (fun g hg=>by have hg:(w3.alloc (.cells #[.slice vp vn vc,.int .i64 (s.size:Nat),.int .i64 0] 67)).heap.size≤g:=hg;simp at hg;omega));have hby:=(Below.refl w5.heap.size w5).alloc (Nat.le_refl _) (.cells #[.int .i64 x.kind,.string ⟨x.str.toArray⟩,.int .i64 x.v.kind,.int .i64 x.v.num,.float .f64 x.v.flt,.string ⟨x.v.str.toArray⟩,.slice na nl nc,.slice ia il ic,.slice ma ml mc,.slice ka kl kc] 29);have hY:=heap_alloc_new w5 (.cells #[.int .i64 x.kind,.string ⟨x.str.toArray⟩,.int .i64 x.v.kind,.int .i64 x.v.num,.float .f64 x.v.flt,.string ⟨x.v.str.toArray⟩,.slice na nl nc,.slice ia il ic,.slice ma ml mc,.slice ka kl kc] 29);have hp6:=hp5.below hby
 have hxy:=hxk.below hby
 have hR6:=hR5.below hby
 have hb06:=hb05.trans (hby.mono hb05.size);have hlen5:r'.length=l2.length:=by rw[←hl5,List.length_map]
 have HL:=zh hlen5;have hYl:w.heap.size+1+1<w5.heap.size:=lt_of_block hR5.2.2;have hplist:=hp6;obtain⟨_,_,v',⟨_,_,pp,pc,rfl,_⟩,hpb⟩:=hplist;obtain⟨c0,_,_⟩:=cells3 hpb;clear hx hlen5 hR5 hb05 hp5 hf5 hpb;have hpos:r'.length=0:=by rw[HL.out,hl2e];rfl
 have t1:decide ((0:Int)<(r'.length:Int))=false:=by rw[hpos];rfl
 have t1':¬ 0<r'.length:=by omega
 have HRi:=pRight_any d x _ _ hxy.at';rw[hrx]at HRi;have HRi:=zh HRi;clear hs5 hl5 hp6 HL hpos;obtain⟨y0,y1,y2,y3,y4,y5,y6,y7,y8,y9⟩:=cellsO10 hY;go_wp2_with fail
 refine(HRi.out).mono ?_;rintro e w7 ⟨rfl,hb7⟩;have hR7:=hR6.below hb7;have hb07:=hb06.trans (hb7.mono hb06.size);clear y0 y1 y2 y3 y4 y5 y6 y7 y8 y9 c0 hR6 hb06 hY hxy;have hX7:=hR7.1;obtain⟨x0,x1,x2,x3,x4,x5,x6,x7,x8,x9⟩:=cellsO10 hX7;obtain⟨z0,z1,z2,z3,z4,z5,z6,z7,z8,z9⟩:=free10 hX7;have a2:=zc hR7.2.1 0;have e2:=zc hR7.2.2 0;have az:=Lib.frozen_of_heap hR7.2.1 0;have ez:=Lib.frozen_of_heap hR7.2.2 0;simp only[List.getElem?_toArray,List.getElem?_cons_zero]at a2 e2;go_wp2_with fail
 obtain⟨hst,hff⟩:=put10 hX7 (.int .i64 0) (.string ⟨#[]⟩) (.int .i64 0) (.int .i64 0) (.float .f64 0) (.string ⟨#[]⟩) (.slice none 0 0) (.slice none 0 0) (.slice none 0 0) (.slice none 0 0);generalize ((((((((((w7).setCell ⟨w.heap.size,0,none⟩ (.int .i64 0)).setCell ⟨w.heap.size,1,none⟩ (.string ⟨#[]⟩)).setCell ⟨w.heap.size,2,none⟩ (.int .i64 0)).setCell ⟨w.heap.size,3,none⟩ (.int .i64 0)).setCell ⟨w.heap.size,4,none⟩ (.float .f64 0)).setCell ⟨w.heap.size,5,none⟩ (.string ⟨#[]⟩)).setCell ⟨w.heap.size,6,none⟩ (.slice none 0 0)).setCell ⟨w.heap.size,7,none⟩ (.slice none 0 0)).setCell ⟨w.heap.size,8,none⟩ (.slice none 0 0)).setCell ⟨w.heap.size,9,none⟩ (.slice none 0 0)=wa at *;have hRa:ResAt w.heap.size wa #[.int .i64 0,.string ⟨#[]⟩,.int .i64 0,.int .i64 0,.float .f64 0,.string ⟨#[]⟩,.slice none 0 0,.slice none 0 0,.slice none 0 0,.slice none 0 0] 0 0:=⟨hst,hff.at hR7.2.1 (by simp),hff.at hR7.2.2 (by simp<;>omega)⟩
 have hb0a:=hb07.trans (hff.below (B:=w.heap.size) hb07.size (by simp));obtain⟨hR8,hb8⟩:=hRa.put 0 15;generalize (wa.setCell ⟨w.heap.size+1,0,none⟩ (.int .i64 0)).setCell ⟨w.heap.size+1+1,0,none⟩ (.int .i64 15)=wd at *;have hb08:=hb0a.trans hb8;refine leaves_cons (f:=31) (args:=#[.pointer (some ⟨w.heap.size,0,none⟩),.pointer (some ⟨w.heap.size+1,0,none⟩),.pointer (some ⟨w.heap.size+1+1,0,none⟩)]) (by simp) (by simp[go_sem]) ?_;refine(parse1_idle w.heap.size (w.heap.size+1) (w.heap.size+1+1) _).mono ?_;rintro e u' w'' ⟨rfl,rfl,hb9⟩;have hR9:=hR8.below hb9;have hb09:=hb08.trans (hb9.mono hb08.size);obtain⟨y0,y1,y2,y3,y4,y5,y6,y7,y8,y9⟩:=cellsO10 hR9.1;have q0:=zc hR9.2.1 0;have q1:=zc hR9.2.2 0;simp only[List.getElem?_toArray,List.getElem?_cons_zero]at q0 q1;simp[Leaves,settle,results,Tryz.results15,go_sem,y0,y1,y2,y3,y4,y5,y6,y7,y8,y9,q0,q1];obtain⟨d2,hd⟩:=noET_in (fun g=>w.heap.size≤g) w'';exact⟨d2,_,by rw[HR.out];rfl,by rw[HR.out];exact hd,hb09⟩
theorem pParse_good (s:ByteArray) (w:World) (hEn:Env w) (hl:s.size≤2000) (tks:List Tk) (htok:tokens s.data.toList=(tks,0,0)) (htl:tks.length≤10000) (hok:∀ k ∈ tks,TkOk k) (x:ET) (hex:(exUn 100).1 (tks.map Tk.te)=.ok (x,[])) (hrx:rightEx x=true):Calls Tryz.prog 15 #[.string s] w (ParsePost (parseX s.data.toList) w):=by
 have HR:=zh ((parse_done (l:=s.data.toList) (by simpa using hl) htok hex).trans (by rw[hrx]<;>rfl))
 generalize parseX s.data.toList=R at *;obtain⟨l2,hl2e⟩:∃ l2:List Te,l2=[]:=⟨_,rfl⟩;rw[←hl2e]at hex;have hsf:∀ (a:Addr) (x:Nat) (m:Mode) (w:World),(store a (.float .f64 x) m).run Tryz.prog w=stored Tryz.prog w a (.float .f64 x) m:=fun a x m w=>run_store _ w a _ m rfl
 have hmf:∀ (fn:Fn) (first cap:Array Value) (w:World),(Instr.makeFunc fn first cap).run Tryz.prog w=.ok (.func fn first cap) w:=fun _ _ _ _=>rfl
 obtain⟨hb1,hX1,hA1,hE1⟩:=par_boxes w;have hR1:ResAt w.heap.size (((w.alloc (.cells #[.int .i64 0,.string ⟨#[]⟩,.int .i64 0,.int .i64 0,.float .f64 0,.string ⟨#[]⟩,.slice none 0 0,.slice none 0 0,.slice none 0 0,.slice none 0 0] 29)).alloc (.cells #[.int .i64 0] 3)).alloc (.cells #[.int .i64 0] 32)) #[.int .i64 0,.string ⟨#[]⟩,.int .i64 0,.int .i64 0,.float .f64 0,.string ⟨#[]⟩,.slice none 0 0,.slice none 0 0,.slice none 0 0,.slice none 0 0] 0 0:=⟨hX1,hA1,hE1⟩;have t0:decide ((2000:Int)<(s.size:Int))=false:=by simp;omega
 have t0':¬ 2000<s.size:=by omega
 have HAll:=zh (all_any s _ (hEn.below hb1));have hl2:s.size≤10000:=by omega
 rw[htok]at HAll;clear htok;go_enter_defers Tryz.func15,Tryz.ntmps15
 go_upto_region 1 with (fail)
 generalize (((w.alloc (.cells #[.int .i64 0,.string ⟨#[]⟩,.int .i64 0,.int .i64 0,.float .f64 0,.string ⟨#[]⟩,.slice none 0 0,.slice none 0 0,.slice none 0 0,.slice none 0 0] 29)).alloc (.cells #[.int .i64 0] 3)).alloc (.cells #[.int .i64 0] 32))=w1 at *;go_wp2_with fail
 refine(HAll.out).mono ?_;rintro e w2 ⟨v,rfl,hb2,htk⟩;obtain⟨vp,vn,vc,rfl⟩:=htk.sl;have hR2:=hR1.below hb2;have hb02:=hb1.trans (hb2.mono hb1.size);have hB1:w.heap.size+1+1<w1.heap.size:=lt_of_block hR1.2.2;have a2:=zc hR2.2.1 0;have e2:=zc hR2.2.2 0;have az:=Lib.frozen_of_heap hR2.2.1 0;have ez:=Lib.frozen_of_heap hR2.2.2 0;simp only[List.getElem?_toArray,List.getElem?_cons_zero]at a2 e2;go_upto_region 4 with (fail)
 obtain⟨hR3,hb3⟩:=hR2.put 0 0;have htk3:=(htk.fr ((Fr.refl [w.heap.size+1] w2).setCell ⟨w.heap.size+1,0,none⟩ (by simp) (.int .i64 0)) (by omega)).fr ((Fr.refl [w.heap.size+1+1] _).setCell ⟨w.heap.size+1+1,0,none⟩ (by simp) (.int .i64 0)) (by omega);generalize (w2.setCell ⟨w.heap.size+1,0,none⟩ (.int .i64 0)).setCell ⟨w.heap.size+1+1,0,none⟩ (.int .i64 0)=w3 at *;have hb03:=hb02.trans hb3;clear a2 e2 az ez hR2 hR1 hb3 hb02 hX1 hA1 hE1 htk HAll;have e3:=zc hR3.2.2 0;simp only[List.getElem?_toArray,List.getElem?_cons_zero]at e3;have hps:=PsAt.fresh htk3 htl hok hl2 (en:=s.size);have hbk:=(Below.refl w3.heap.size w3).alloc (Nat.le_refl _) (.cells #[.slice vp vn vc,.int .i64 (s.size:Nat),.int .i64 0] 67);have hR4:=hR3.below hbk;have hb04:=hb03.trans (hbk.mono hb03.size);have hbB:w.heap.size+1+1<w3.heap.size:=lt_of_block hR3.2.2;have HX:=zh ((reads_all w3.heap.size s.size 100 0 rfl).1 tks _ hps);rw[hex]at HX;clear hps htk3 hbk hR3 hb03;go_wp2_with fail
 refine(HX.out).mono ?_;intro e w5 h5;obtain⟨na,nl,nc,ia,il,ic,ma,ml,mc,ka,kl,kc,d,r',rfl,hx,hs5,hl5,hp5,hf5⟩:=PrPost.good_out rfl h5;have hR5:=hR4.fr hf5 (by omega);have hb05:=hb04.trans (hf5.below (B:=w.heap.size) (by simp<;>omega) (by simp<;>omega))
 have hxk:=(hx.wider (T:=fun g=>w.heap.size+1+1<g) (fun g hg=>by have hg:(w3.alloc (.cells #[.slice vp vn vc,.int .i64 (s.size:Nat),.int .i64 0] 67)).heap.size≤g:=hg;simp at hg;omega));have hby:=(Below.refl w5.heap.size w5).alloc (Nat.le_refl _) (.cells #[.int .i64 x.kind,.string ⟨x.str.toArray⟩,.int .i64 x.v.kind,.int .i64 x.v.num,.float .f64 x.v.flt,.string ⟨x.v.str.toArray⟩,.slice na nl nc,.slice ia il ic,.slice ma ml mc,.slice ka kl kc] 29);have hY:=heap_alloc_new w5 (.cells #[.int .i64 x.kind,.string ⟨x.str.toArray⟩,.int .i64 x.v.kind,.int .i64 x.v.num,.float .f64 x.v.flt,.string ⟨x.v.str.toArray⟩,.slice na nl nc,.slice ia il ic,.slice ma ml mc,.slice ka kl kc] 29);have hp6:=hp5.below hby
 have hxy:=hxk.below hby
 have hR6:=hR5.below hby
 have hb06:=hb05.trans (hby.mono hb05.size);have hlen5:r'.length=l2.length:=by rw[←hl5,List.length_map]
 have HL:=zh hlen5;have hYl:w.heap.size+1+1<w5.heap.size:=lt_of_block hR5.2.2;have hplist:=hp6;obtain⟨_,_,v',⟨_,_,pp,pc,rfl,_⟩,hpb⟩:=hplist;obtain⟨c0,_,_⟩:=cells3 hpb;clear hx hlen5 hR5 hb05 hp5 hf5 hpb;have hpos:r'.length=0:=by rw[HL.out,hl2e];rfl
 have t1:decide ((0:Int)<(r'.length:Int))=false:=by rw[hpos];rfl
 have t1':¬ 0<r'.length:=by omega
 have HRi:=pRight_any d x _ _ hxy.at';rw[hrx]at HRi;have HRi:=zh HRi;clear hs5 hl5 hp6 HL hpos;obtain⟨y0,y1,y2,y3,y4,y5,y6,y7,y8,y9⟩:=cellsO10 hY;go_wp2_with fail
 refine(HRi.out).mono ?_;rintro e w7 ⟨rfl,hb7⟩;have hR7:=hR6.below hb7;have hb07:=hb06.trans (hb7.mono hb06.size);have hx7:=hxy.below hb7;have hY7:=(hb7.block _ (lt_of_block hY)).trans hY;clear y0 y1 y2 y3 y4 y5 y6 y7 y8 y9 c0 hR6 hb06 hY hxy;have hX7:=hR7.1;obtain⟨x0,x1,x2,x3,x4,x5,x6,x7,x8,x9⟩:=cellsO10 hX7;obtain⟨z0,z1,z2,z3,z4,z5,z6,z7,z8,z9⟩:=free10 hX7;obtain⟨y0,y1,y2,y3,y4,y5,y6,y7,y8,y9⟩:=cellsO10 hY7;have a2:=zc hR7.2.1 0;have e2:=zc hR7.2.2 0;have az:=Lib.frozen_of_heap hR7.2.1 0;have ez:=Lib.frozen_of_heap hR7.2.2 0;simp only[List.getElem?_toArray,List.getElem?_cons_zero]at a2 e2;go_wp2_with fail
 obtain⟨hst,hff⟩:=put10 hX7 (.int .i64 x.kind) (.string ⟨x.str.toArray⟩) (.int .i64 x.v.kind) (.int .i64 x.v.num) (.float .f64 x.v.flt) (.string ⟨x.v.str.toArray⟩) (.slice na nl nc) (.slice ia il ic) (.slice ma ml mc) (.slice ka kl kc);generalize ((((((((((w7).setCell ⟨w.heap.size,0,none⟩ (.int .i64 x.kind)).setCell ⟨w.heap.size,1,none⟩ (.string ⟨x.str.toArray⟩)).setCell ⟨w.heap.size,2,none⟩ (.int .i64 x.v.kind)).setCell ⟨w.heap.size,3,none⟩ (.int .i64 x.v.num)).setCell ⟨w.heap.size,4,none⟩ (.float .f64 x.v.flt)).setCell ⟨w.heap.size,5,none⟩ (.string ⟨x.v.str.toArray⟩)).setCell ⟨w.heap.size,6,none⟩ (.slice na nl nc)).setCell ⟨w.heap.size,7,none⟩ (.slice ia il ic)).setCell ⟨w.heap.size,8,none⟩ (.slice ma ml mc)).setCell ⟨w.heap.size,9,none⟩ (.slice ka kl kc)=wa at *;have hRa:ResAt w.heap.size wa #[.int .i64 x.kind,.string ⟨x.str.toArray⟩,.int .i64 x.v.kind,.int .i64 x.v.num,.float .f64 x.v.flt,.string ⟨x.v.str.toArray⟩,.slice na nl nc,.slice ia il ic,.slice ma ml mc,.slice ka kl kc] 0 0:=⟨hst,hff.at hR7.2.1 (by simp),hff.at hR7.2.2 (by simp<;>omega)⟩
 have hb0a:=hb07.trans (hff.below (B:=w.heap.size) hb07.size (by simp));have hxa:=hx7.fr hff (by simp<;>omega)
 obtain⟨hR8,hb8⟩:=hRa.put 0 0;have hxd:=(hxa.fr ((Fr.refl [w.heap.size+1] wa).setCell ⟨w.heap.size+1,0,none⟩ (by simp) (.int .i64 0)) (by simp)).fr ((Fr.refl [w.heap.size+1+1] _).setCell ⟨w.heap.size+1+1,0,none⟩ (by simp) (.int .i64 0)) (by simp);generalize (wa.setCell ⟨w.heap.size+1,0,none⟩ (.int .i64 0)).setCell ⟨w.heap.size+1+1,0,none⟩ (.int .i64 0)=wd at *;have hb08:=hb0a.trans hb8;refine leaves_cons (f:=31) (args:=#[.pointer (some ⟨w.heap.size,0,none⟩),.pointer (some ⟨w.heap.size+1,0,none⟩),.pointer (some ⟨w.heap.size+1+1,0,none⟩)]) (by simp) (by simp[go_sem]) ?_;refine(parse1_idle w.heap.size (w.heap.size+1) (w.heap.size+1+1) _).mono ?_;rintro e u' w'' ⟨rfl,rfl,hb9⟩;have hR9:=hR8.below hb9;have hb09:=hb08.trans (hb9.mono hb08.size);obtain⟨y0,y1,y2,y3,y4,y5,y6,y7,y8,y9⟩:=cellsO10 hR9.1;have q0:=zc hR9.2.1 0;have q1:=zc hR9.2.2 0;simp only[List.getElem?_toArray,List.getElem?_cons_zero]at q0 q1;simp[Leaves,settle,results,Tryz.results15,go_sem,y0,y1,y2,y3,y4,y5,y6,y7,y8,y9,q0,q1];exact⟨d,_,by rw[HR.out];rfl,by rw[HR.out];exact(hxd.below hb9).wider (fun g hg=>by have hg:w.heap.size+1+1<g:=hg;omega),hb09⟩
theorem pParse_any (s:ByteArray) (w:World) (hEn:Env w):Calls Tryz.prog 15 #[.string s] w (ParsePost (parseX s.data.toList) w):=by
 have hll:s.data.toList.length=s.size:=by simp
 by_cases hl:2000<s.size
 ·have e:parseX s.data.toList=(noET,0,3):=by unfold parseX;rw[if_pos (by omega)]
  rw[e];exact pParse_long s w hl
 ·by_cases he:(tokens s.data.toList).2.2=0
  ·have hz:(tokens s.data.toList).2.1=0:=by
    unfold tokens at he ⊢
    rw[if_neg (by omega)]at he ⊢
    exact allS_zero _ _ he
   have hok:=tokens_ok s.data.toList;have hlen:=tokens_len2 s.data.toList;obtain⟨tks,htok⟩:∃ tks,tokens s.data.toList=(tks,0,0):=by
    refine⟨(tokens s.data.toList).1,?_⟩;rw[←hz];exact Prod.ext rfl (Prod.ext rfl (by rw[he]<;>rfl))
   rw[htok]at hok hlen;dsimp only at hok hlen;have htl:tks.length≤10000:=by omega
   rcases hex:(exUn 100).1 (tks.map Tk.te)with er|⟨x,l2⟩
   ·exact pParse_gave s w hEn (by omega) tks htok htl hok er hex
   ·by_cases h0:l2=[]
    ·subst h0;cases hrx:rightEx x
     ·exact pParse_deep s w hEn (by omega) tks htok htl hok x hex hrx
     ·exact pParse_good s w hEn (by omega) tks htok htl hok x hex hrx
    ·exact pParse_more s w hEn (by omega) tks htok htl hok x l2 hex h0
  ·have e:parseX s.data.toList=(noET,(tokens s.data.toList).2.1,(tokens s.data.toList).2.2):=by
    unfold parseX;rw[if_neg (by omega),if_pos he]
   rw[e];exact pParse_err s w hEn (by omega) he
end
section
open Go.RowKit
theorem ExIn.form {S:Nat→Prop} {w:World} {d:Nat} {x:ET} {cs:Array Value} (h:ExIn S w d x cs):∃ qn qi pn pk,cs=#[.int .i64 x.kind,.string ⟨x.str.toArray⟩,.int .i64 x.v.kind,.int .i64 x.v.num,.float .f64 x.v.flt,.string ⟨x.v.str.toArray⟩,qn,qi,pn,pk]:=by
 cases d with
 | zero=>exact h.elim
 | succ d=>obtain⟨qn,qi,pn,pk,h1,_⟩:=h;exact⟨qn,qi,pn,pk,h1⟩
theorem ExIn.keptA {S:Nat→Prop} {w w':World} (hb:Below w.heap.size w w') {d:Nat} {x:ET} {cs:Array Value} (h:ExIn S w d x cs):ExIn S w' d x cs:=h.below hb
theorem rcountE_any:∀ (d:Nat) (x:ET) (cs:Array Value) (n:Nat) (w:World),ExAt' w d x cs→n<500 →
  Calls Tryz.prog 27 #[.agg cs,.int .i64 (n:Int)] w (Gives (.int .i64 (countE x n:Nat)) w)
 | 0,_,_,_,_,h,_=>h.elim
 | d+1,x,cs,n,w,h,hn=>by
  obtain⟨qn,qi,pn,pk,rfl,h2,h3,h4,h5,h7,h8⟩:=h;have ih:=zh (rcountE_any d);clear h4;have hcv:countE x n=countEL x.kids (n+1):=by cases x;rw[countE];rfl
  have HCV:=zh hcv;clear hcv;clear h2 h3 h5;have hB:Below w.heap.size w (w.alloc (.cells #[.int .i64 x.kind,.string ⟨x.str.toArray⟩,.int .i64 x.v.kind,.int .i64 x.v.num,.float .f64 x.v.flt,.string ⟨x.v.str.toArray⟩,qn,qi,pn,pk] 29)):=(Below.refl _ _).alloc (Nat.le_refl _) _;have hnew:(w.alloc (.cells #[.int .i64 x.kind,.string ⟨x.str.toArray⟩,.int .i64 x.v.kind,.int .i64 x.v.num,.float .f64 x.v.flt,.string ⟨x.v.str.toArray⟩,qn,qi,pn,pk] 29)).heap[w.heap.size]?=some (.cells #[.int .i64 x.kind,.string ⟨x.str.toArray⟩,.int .i64 x.v.kind,.int .i64 x.v.num,.float .f64 x.v.flt,.string ⟨x.v.str.toArray⟩,qn,qi,pn,pk] 29 (0,0)):=heap_alloc_new w _;have hK:w.heap.size+1=(w.alloc (.cells #[.int .i64 x.kind,.string ⟨x.str.toArray⟩,.int .i64 x.v.kind,.int .i64 x.v.num,.float .f64 x.v.flt,.string ⟨x.v.str.toArray⟩,qn,qi,pn,pk] 29)).heap.size:=by simp
  obtain⟨its,hits⟩:∃ its,its=x.kids:=⟨_,rfl⟩;rw[←hits]at h7 h8 HCV;have h8':∃ p cap,pk=.slice p its.length cap∧∀ i,i<its.length→∃ g off,p=some ⟨g,off,none⟩∧g<w.heap.size∧∃ ds,ExAt' w d (its.getD i noET) ds∧∀ j,j<10→w.cell? ⟨g,off+i*10+j,none⟩=ds[j]?:=by
   rcases h8 with ⟨h8,p,c,hp⟩|⟨g,off,cap,hp,hg,hc⟩
   ·subst h8;exact⟨p,c,hp,fun i hi=>absurd hi (by simp)⟩
   ·exact⟨_,cap,hp,fun i hi=>⟨g,off,rfl,hg.2,hc i hi⟩⟩
  obtain⟨p,cap,rfl,h9⟩:=h8';have H9:=zh h9;clear h8 h9 hits;generalize hN:its.length=N at *;have HN:=zh hN;clear hN;go_in;go_wp2_with fail
  generalize w.alloc (.cells #[.int .i64 x.kind,.string ⟨x.str.toArray⟩,.int .i64 x.v.kind,.int .i64 x.v.num,.float .f64 x.v.flt,.string ⟨x.v.str.toArray⟩,qn,qi,pn,.slice p N cap] 29)=W0 at *;generalize hgh:w.heap.size=H at *;have HH:=zh hgh;clear hgh;have hW0:H<W0.heap.size:=by omega
  clear hK;have hB8:=Below.refl W0.heap.size W0;generalize hG:W0.heap.size=G at *;have HG:=zh hG;clear hG;go_loopw [1,5] (fun mv iv wr=>∃ i m:Nat,i≤N∧m≤500∧mv=.int .i64 m∧iv=.int .i64 i∧Below G W0 wr∧Hid (countE x n=countEL (its.drop i) m)) (fun _ iv _=>N - (intOf iv).toNat)
  case atStart=>exact⟨0,n+1,by omega,by omega,by go_num,rfl,hB8,by show _=_;rw[List.drop_zero,HCV.out]⟩
  case round =>
   clear hB8;obtain⟨i,m,hi,hm,rfl,rfl,hBr,hcn⟩:=hrel;have hGr:G≤wr.heap.size:=by have:=hBr.size;rw[HG.out]at this;exact this
   have hBw:Below H w wr:=hB.trans (hBr.mono (by omega));have r9:wr.cell? ⟨H,9,none⟩=some (.slice p N cap):=(hBr.cell (p:=⟨H,9,none⟩) (by show H<G;omega)).trans (by simp[World.cell?,hnew]);have hmin:min (m:Int) 500=(m:Int):=by omega
   by_cases hlt:i<N
   ·have t0:decide ((i:Int)<(N:Int))=true:=by simp;omega
    by_cases h5:m<500
    ·have t1:decide ((m:Int)<500)=true:=by simp;omega
     obtain⟨g,off,rfl,hg,ds,hv,hcl⟩:=H9.out i hlt;obtain⟨qn2,qi2,pn2,pk2,rfl⟩:=hv.form;have x0:wr.cell? ⟨g,off+i*10,none⟩=some (.int .i64 (its.getD i noET).kind):=(hBw.cell (p:=⟨g,off+i*10+0,none⟩) hg).trans (hcl 0 (by decide));have x1:wr.cell? ⟨g,off+i*10+1,none⟩=some (.string ⟨(its.getD i noET).str.toArray⟩):=(hBw.cell (p:=⟨g,off+i*10+1,none⟩) hg).trans (hcl 1 (by decide));have x2:wr.cell? ⟨g,off+i*10+2,none⟩=some (.int .i64 (its.getD i noET).v.kind):=(hBw.cell (p:=⟨g,off+i*10+2,none⟩) hg).trans (hcl 2 (by decide));have x3:wr.cell? ⟨g,off+i*10+3,none⟩=some (.int .i64 (its.getD i noET).v.num):=(hBw.cell (p:=⟨g,off+i*10+3,none⟩) hg).trans (hcl 3 (by decide));have x4:wr.cell? ⟨g,off+i*10+4,none⟩=some (.float .f64 (its.getD i noET).v.flt):=(hBw.cell (p:=⟨g,off+i*10+4,none⟩) hg).trans (hcl 4 (by decide));have x5:wr.cell? ⟨g,off+i*10+5,none⟩=some (.string ⟨(its.getD i noET).v.str.toArray⟩):=(hBw.cell (p:=⟨g,off+i*10+5,none⟩) hg).trans (hcl 5 (by decide));have x6:wr.cell? ⟨g,off+i*10+6,none⟩=some (qn2):=(hBw.cell (p:=⟨g,off+i*10+6,none⟩) hg).trans (hcl 6 (by decide));have x7:wr.cell? ⟨g,off+i*10+7,none⟩=some (qi2):=(hBw.cell (p:=⟨g,off+i*10+7,none⟩) hg).trans (hcl 7 (by decide));have x8:wr.cell? ⟨g,off+i*10+8,none⟩=some (pn2):=(hBw.cell (p:=⟨g,off+i*10+8,none⟩) hg).trans (hcl 8 (by decide));have x9:wr.cell? ⟨g,off+i*10+9,none⟩=some (pk2):=(hBw.cell (p:=⟨g,off+i*10+9,none⟩) hg).trans (hcl 9 (by decide));have hv2:=hv.keptA (w':=wr) (by rw[HH.out];exact hBw);have HC:=zh (ih.out _ _ m wr hv2 h5);have hdn:=countEL_drop (l:=its) (i:=i) (m:=m) (by rw[HN.out];exact hlt) h5;have HD:=zh hdn;have hle:=countE_le (its.getD i noET) m h5;generalize its.getD i noET=k at *;generalize countE k m=m2 at *;have b1:(0:Int)≤(i:Int):=by omega
     have b2:(i:Int)<(N:Int):=by omega
     clear hdn hcl hv hv2 hmin;go_wp2_with fail
     refine(HC.out).mono ?_;rintro e w5 ⟨rfl,hb5⟩;have hB6:=hBr.trans (hb5.mono hGr);go_wp2_with fail
     go_roundw
     case rel=>exact⟨i+1,m2,by omega,hle.1,rfl,by go_num,hB6,by show _=_;rw[hcn.out,HD.out]⟩
     case measure=>simp[intOf];omega
    ·have t1:decide ((m:Int)<500)=false:=by simp;omega
     have HF:=zh (countEL_stop (l:=its.drop i) (m:=m) (by omega));go_wp2_with fail
     go_ret;exact⟨ret_val (by rw[hcn.out,HF.out];rfl),by rw[HH.out];exact hBw⟩
   ·have t0:decide ((i:Int)<(N:Int))=false:=by simp;omega
    have HF:=zh (countEL_end (l:=its) (i:=i) (m:=m) (by rw[HN.out];omega));go_wp2_with fail
    go_ret;exact⟨ret_val (by rw[hcn.out,HF.out];rfl),by rw[HH.out];exact hBw⟩
theorem rpartsE_any (d:Nat) (x:ET) (cs:Array Value) (w:World) (h:ExAt' w d x cs) :
  Calls Tryz.prog 13 #[.agg cs] w (Gives (.int .i64 (countE x 0:Nat)) w):=by
 obtain⟨qn,qi,pn,pk,rfl⟩:=h.form;have hB:Below w.heap.size w (w.alloc (.cells #[.int .i64 x.kind,.string ⟨x.str.toArray⟩,.int .i64 x.v.kind,.int .i64 x.v.num,.float .f64 x.v.flt,.string ⟨x.v.str.toArray⟩,qn,qi,pn,pk] 29)):=(Below.refl _ _).alloc (Nat.le_refl _) _;have h2:=h.keptA hB;have HC:=zh (rcountE_any d x _ 0 _ h2 (by omega));go_in;go_wp2_with fail
 refine(HC.out).mono ?_;rintro e w2 ⟨rfl,k2⟩;go_wp2_with fail
 go_ret;exact⟨rfl,hB.trans (k2.mono (by simp))⟩
end
section
open Go.RowKit
theorem ExIn.form4 {S:Nat→Prop} {w:World} {d:Nat} {x:ET} {cs:Array Value} (h:ExIn S w d x cs):∃ q1 r1 s1 u1 n1 m1 k1 l1,cs=#[.int .i64 x.kind,.string ⟨x.str.toArray⟩,.int .i64 x.v.kind,.int .i64 x.v.num,.float .f64 x.v.flt,.string ⟨x.v.str.toArray⟩,.slice q1 x.v.names.length r1,.slice s1 x.v.items.length u1,.slice n1 x.names.length m1,.slice k1 x.kids.length l1]:=by
 cases d with
 | zero=>exact h.elim
 | succ d =>
  obtain⟨qn,qi,pn,pk,rfl,_,_,⟨dv,h4⟩,h5,_,h8⟩:=h;obtain⟨q,r,s,u,h6⟩:=h4.at.sixS;obtain⟨n,m,rfl⟩:=h5.at.lenOf;simp only[Array.mk.injEq,List.cons.injEq,true_and,and_true]at h6;obtain⟨rfl,rfl⟩:=h6;rcases h8 with ⟨h8,p,c,rfl⟩|⟨g,off,cap,rfl,_⟩
  ·exact⟨q,r,s,u,n,m,p,c,by rw[h8];rfl⟩
  ·exact⟨q,r,s,u,n,m,_,cap,rfl⟩
end
end Go.Proofs.YtaaaaggmhjhkkaaGreatDoor
