/-
  O3 in one text.
-/
import Derived.Test.YtaaaaggmhjhkkaaGreatDoorS34
import Derived.Test.YtaaaaggmhjhkkaaGreatDoorS52
namespace Go.Proofs.YtaaaaggmhjhkkaaGreatDoor
open Go.RowKit
theorem list10 {α:Type} {l:List α} (h:l.length=10):∃ c0 c1 c2 c3 c4 c5 c6 c7 c8 c9,l=[c0,c1,c2,c3,c4,c5,c6,c7,c8,c9]:=by
 match l,h with
 | [c0,c1,c2,c3,c4,c5,c6,c7,c8,c9],_=>exact⟨c0,c1,c2,c3,c4,c5,c6,c7,c8,c9,rfl⟩
theorem cz_s_Expr:Tryz.prog.cellsOf 27=1:=by kernel_rfl
theorem cz_Expr:Tryz.prog.cellsOf 29=10:=by kernel_rfl
theorem by_Expr:0<Tryz.prog.bytesOf 29:=of_decide_eq_true (by kernel_rfl)
section
variable {H:Type} {enc:TypeId × Value→H} {w:World} {base:Nat} {sp:Nat→Bool} {held:Bool}
theorem open_exp:∀ (fuel:Nat) (cs:List Value) (x:DataW H × List MemPlace),DataW.trod enc Tryz.prog w base sp held fuel 29 cs=some x→Sized Tryz.prog 29 x.1→∃ v,ExAt' w fuel v cs.toArray:=by
 intro fuel;induction fuel using Nat.strongRecOn with
 | ind fuel ih =>
 intro cs x h hz;obtain⟨n,rfl,hl,hf⟩:=open_st Tryz.underlying29 h hz;rw[cz_Expr]at hl;obtain⟨c0,c1,c2,c3,c4,c5,c6,c7,c8,c9,rfl⟩:=list10 hl;obtain⟨y0,h0,z0⟩:=hf 0 _ rfl;replace z0:Sized Tryz.prog 3 y0.1:=z0;replace h0:DataW.trod enc Tryz.prog w base sp held n 3 ((([c0,c1,c2,c3,c4,c5,c6,c7,c8,c9]).drop 0).take (Tryz.prog.cellsOf 3))=some y0:=h0;rw[cz_int]at h0;replace h0:DataW.trod enc Tryz.prog w base sp held n 3 [c0]=some y0:=h0;obtain⟨y1,h1,z1⟩:=hf 1 _ rfl;replace z1:Sized Tryz.prog 9 y1.1:=z1;replace h1:DataW.trod enc Tryz.prog w base sp held n 9 ((([c0,c1,c2,c3,c4,c5,c6,c7,c8,c9]).drop 1).take (Tryz.prog.cellsOf 9))=some y1:=h1;rw[cz_string]at h1;replace h1:DataW.trod enc Tryz.prog w base sp held n 9 [c1]=some y1:=h1;obtain⟨y2,h2,z2⟩:=hf 2 _ rfl;replace z2:Sized Tryz.prog 26 y2.1:=z2;replace h2:DataW.trod enc Tryz.prog w base sp held n 26 ((([c0,c1,c2,c3,c4,c5,c6,c7,c8,c9]).drop 2).take (Tryz.prog.cellsOf 26))=some y2:=h2;rw[cz_Value]at h2;replace h2:DataW.trod enc Tryz.prog w base sp held n 26 [c2,c3,c4,c5,c6,c7]=some y2:=h2;obtain⟨y3,h3,z3⟩:=hf 3 _ rfl;replace z3:Sized Tryz.prog 23 y3.1:=z3;replace h3:DataW.trod enc Tryz.prog w base sp held n 23 ((([c0,c1,c2,c3,c4,c5,c6,c7,c8,c9]).drop 8).take (Tryz.prog.cellsOf 23))=some y3:=h3;rw[cz_s_string]at h3;replace h3:DataW.trod enc Tryz.prog w base sp held n 23 [c8]=some y3:=h3;obtain⟨y4,h4,z4⟩:=hf 4 _ rfl;replace z4:Sized Tryz.prog 27 y4.1:=z4;replace h4:DataW.trod enc Tryz.prog w base sp held n 27 ((([c0,c1,c2,c3,c4,c5,c6,c7,c8,c9]).drop 9).take (Tryz.prog.cellsOf 27))=some y4:=h4;rw[cz_s_Expr]at h4;replace h4:DataW.trod enc Tryz.prog w base sp held n 27 [c9]=some y4:=h4;obtain⟨k0,e0,b0⟩:=open_int Tryz.underlying3 h0;simp only[List.cons.injEq,and_true]at e0;subst e0;obtain⟨k1,e1,b1⟩:=open_string Tryz.underlying9 h1 z1;simp only[List.cons.injEq,and_true]at e1;subst e1;obtain⟨v,hv⟩:=open_val n _ y2 h2 z2;obtain⟨qn,qi,hq⟩:=hv.form;simp only[Array.mk.injEq,List.cons.injEq,and_true]at hq;obtain⟨rfl,rfl,rfl,rfl,rfl,rfl⟩:=hq;obtain⟨ns,hns⟩:=open_strs h3 z3;obtain⟨p,len,cap,hc,hll,hr⟩:=open_sl Tryz.underlying27 cz_Expr (by omega) by_Expr h4 z4;simp only[List.cons.injEq,and_true]at hc;subst hc;obtain⟨n',rfl⟩:∃ m,n=m+1:=by
  cases n with
  | zero=>exact hv.elim
  | succ m=>exact⟨m,rfl⟩
 rcases hr with rfl|⟨g,off,m,rfl,hg,hm,hr⟩
 ·exact⟨.mk k0 k1 v ns [],_,_,_,_,rfl,b0,b1,⟨n',hv.inT⟩,Strs.inT hns,by simp[ET.kids],.inl ⟨rfl,_,_,rfl⟩⟩
 ·obtain rfl:n'=m:=by omega
  obtain⟨l,l1,l2⟩:=list_of noET len (fun i v=>∃ ds:Array Value,ExAt' w (n'+1) v ds∧∀ j,j<10→w.cell? ⟨g,off+i*10+j,none⟩=ds[j]?) (fun i hi=>by
   obtain⟨ds,y,_,q2,q3,q4⟩:=hr i hi;obtain⟨v,hv⟩:=ih n' (by omega) ds y q2 q3;exact⟨v,ds.toArray,hv.upto (by omega),fun j hj=>by rw[q4 j hj];simp⟩)
  refine⟨.mk k0 k1 v ns l,_,_,_,_,rfl,b0,b1,⟨n',hv.inT⟩,Strs.inT hns,by show l.length≤_;omega,.inr ⟨g,off,cap,by show _=Value.slice _ l.length cap;rw[l1],⟨trivial,hg⟩,fun i hi=>l2 i (by have hi:i<l.length:=hi;omega)⟩⟩
end
end Go.Proofs.YtaaaaggmhjhkkaaGreatDoor
