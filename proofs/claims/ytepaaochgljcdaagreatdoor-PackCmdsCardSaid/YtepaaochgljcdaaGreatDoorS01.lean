/-
  V9, Bd, C1, Y1, Y2, Fo, U1, W2, Y3, Y4 in one text.
-/
import Derived.Lib.Bytes
import Derived.Lib.ConvBytes
import Derived.Lib.FrozenHead2
import Derived.Test.YtepaaochgljcdaaGreatDoorS00
import Derived.Test.YtepaaochgljcdaaGreatDoorCl
set_option maxRecDepth 100000
set_option maxHeartbeats 8000000
namespace Go.Proofs.YtepaaochgljcdaaGreatDoor
section
open Go.RowKit
def namesB (l:List (List UInt8)) (n:Int):Bool:=risesB l&&decide ((l.length:Int)=n)
theorem rises_no {l:List (List UInt8)} {i:Nat} (hi:i<l.length) (h:okAt l i=false):risesB l=false:=by
 rw[←Bool.not_eq_true,rises_iff];intro g;rw[g i hi]at h;cases h
theorem rnames_any (l:List (List UInt8)) (v:Value) (n:Int) (w:World) (h:Strs w l v) :
  Calls Tryz.prog 158 #[v,.int .i64 n] w fun e w'=>e=.returned (.bool (namesB l n))∧∃ q,w'=w.drewN q:=by
 obtain⟨h1,h2,h3⟩:=h;have h3':∃ p cap,v=.slice p l.length cap∧∀ i,i<l.length→∃ g off,p=some ⟨g,off,none⟩∧∀ j,j<l.length→w.cell? ⟨g,off+j,none⟩=some (.string ⟨(l.getD j []).toArray⟩):=by
  rcases h3 with ⟨h3,p,c,hp⟩|⟨g,off,cap,hp,hg,hc⟩
  ·subst h3;exact⟨p,c,hp,fun i hi=>absurd hi (by simp)⟩
  ·exact⟨_,cap,hp,fun i hi=>⟨g,off,rfl,hc⟩⟩
 obtain⟨p,cap,rfl,h4⟩:=h3';have H4:=zh h4;clear h3 h4 h2;have HS:=zh (namesB.eq_def l n);have HNo:=zh (fun i hi hk=>rises_no (l:=l) (i:=i) hi hk);generalize hN:l.length=N at *;have HN:=zh hN;clear hN;go_in;go_wp2_with fail
 go_loopw [5] (fun iv wr=>∃ i q:Nat,i≤N∧iv=.int .i64 i∧Hid (wr=w.drewN q)∧Hid (∀ j,j<i→okAt l j=true)) (fun iv _=>N - (intOf iv).toNat)
 case atStart=>exact⟨0,0,by omega,rfl,rfl,fun j hj=>absurd hj (by omega)⟩
 case round =>
  obtain⟨i,q,hi,rfl,hw,hall⟩:=hrel;by_cases hlt:i<N
  ·have t0:decide ((i:Int)<(N:Int))=true:=by simp;omega
   obtain⟨g,off,rfl,hc⟩:=H4.out i hlt;have x1:wr.cell? ⟨g,off+i,none⟩=some (.string ⟨(l.getD i []).toArray⟩):=by rw[hw.out];exact hc i hlt
   have x2:wr.cell? ⟨g,off+(i - 1),none⟩=some (.string ⟨(l.getD (i - 1) []).toArray⟩):=by rw[hw.out];exact hc (i - 1) (by omega)
   have hnm:=rname4_any ⟨(l.getD i []).toArray⟩;rw[show(⟨(l.getD i []).toArray⟩:ByteArray).data.toList=l.getD i [] from rfl]at hnm;have HNm:=zh hnm;have HOk:=zh (okAt.eq_def l i);have b1:(0:Int)≤(i:Int):=by omega
   have b2:(i:Int)<(N:Int):=by omega
   clear hc hnm;have HAll:=zh (fun(h:okAt l i=true) j (hj:j<i+1)=>(show okAt l j=true from by
    rcases Nat.lt_or_ge j i with g|g
    ·exact hall.out j g
    ·rw[show j=i by omega];exact h))
   have HNi:=zh (HNo.out i hlt);generalize hA:l.getD i []=A at *;generalize hB:l.getD (i - 1) []=B at *;clear hA hB;cases hb:nmB A
   ·rw[hb]at HNm HOk;have HX:=zh (HNi.out (by rw[HOk.out];rfl));go_wp2_with fail
    go_quiet (refine Calls.quiet_of_same ((HNm.out _).mono fun _ _ h=>⟨h.1,h.2.symm⟩))
    go_wp2_with fail
    go_ret;exact⟨ret_val (by rw[HS.out,HX.out];rfl),q+nq,by rw[hw.out];simp⟩
   ·rw[hb]at HNm HOk;by_cases hi0:i=0
    ·have t1:decide ((0:Int)<(i:Int))=false:=by simp;omega
     have t1':¬ 0<i:=by omega
     have t1n:decide (0<i)=false:=by simp;omega
     have HY:=zh (HAll.out (by rw[HOk.out,decide_eq_true hi0];rfl));clear hi0;go_wp2_with fail
     go_quiet (refine Calls.quiet_of_same ((HNm.out _).mono fun _ _ h=>⟨h.1,h.2.symm⟩))
     go_wp2_with fail
     go_roundw
     case rel=>exact⟨i+1,q+nq,by omega,by go_num,by show _=_;rw[hw.out];simp,HY.out⟩
     case measure=>simp[intOf];omega
    ·have t1:decide ((0:Int)<(i:Int))=true:=by simp;omega
     have t1p:0<i:=by omega
     have t1n:decide (0<i)=true:=by simp;omega
     have w1:IntKind.i64.wrap ((i:Int) - 1)=((i - 1:Nat):Int):=by rw[IntKind.wrap_i64];omega
     have w2:(0:Int)≤((i - 1:Nat):Int):=by omega
     have w3:((i - 1:Nat):Int)<(N:Int):=by omega
     have HI:=zh (decide_eq_false hi0);clear hi0;cases hl:Op.bytesLess B A
     ·have HX:=zh (HNi.out (by rw[HOk.out,HI.out,hl];rfl));go_wp2_with fail
      go_quiet (refine Calls.quiet_of_same ((HNm.out _).mono fun _ _ h=>⟨h.1,h.2.symm⟩))
      go_wp2_with fail
      go_ret;exact⟨ret_val (by rw[HS.out,HX.out];rfl),q+nq,by rw[hw.out];simp⟩
     ·have HY:=zh (HAll.out (by rw[HOk.out,HI.out,hl];rfl));go_wp2_with fail
      go_quiet (refine Calls.quiet_of_same ((HNm.out _).mono fun _ _ h=>⟨h.1,h.2.symm⟩))
      go_wp2_with fail
      go_roundw
      case rel=>exact⟨i+1,q+nq,by omega,by go_num,by show _=_;rw[hw.out];simp,HY.out⟩
      case measure=>simp[intOf];omega
  ·have t0:decide ((i:Int)<(N:Int))=false:=by simp;omega
   have hr:risesB l=true:=(rises_iff l).2 (fun j hj=>hall.out j (by rw[HN.out]at hj;omega));have HR:=zh hr;clear hr;by_cases hn:(N:Int)=n
   ·have t2:((N:Int)==n)=true:=by rw[hn];exact beq_self_eq_true _
    have HD:=zh hn;clear hn;go_wp2_with fail
    go_ret;exact⟨ret_val (by rw[HS.out,HR.out,decide_eq_true HD.out];rfl),q,hw.out⟩
   ·have t2:((N:Int)==n)=false:=by rw[beq_eq_false_iff_ne];exact hn
    have HD:=zh hn;clear hn;go_wp2_with fail
    go_ret;exact⟨ret_val (by rw[HS.out,HR.out,decide_eq_false HD.out];rfl),q,hw.out⟩
end
section
open Go.RowKit
/-- a type whose first field is a builder, and that has no other -/
structure BT (T:TypeId):Prop where
 lies:liesAt Tryz.prog Tryz.prog.depth T (2 / Tryz.prog.cellsOf T) 0 85 1=true
 ne:T≠5
section
variable {T:TypeId} (hT:BT T)
include hT
theorem bcheck_used (b:Nat) (w:World) (h0:w.cell? ⟨b,0,none⟩=some (.pointer (some ⟨b,0,none⟩))) :
  Calls Tryz.prog 60 #[.pointer (some ⟨b,0,none⟩)] w fun e w'=>e=.returned (.tuple #[])∧w=w':=by
 obtain⟨j,hj,_⟩:=Option.map_eq_some_iff.1 (show(Tryz.prog.info? 85).map (·.size)=some 2 by kernel_rfl);have _:=hT.ne;go_in;go_wp2
 rw[Lib.run_neq_ptr_same w _ Tryz.underlying82 hj];go_wp2
 go_end0;exact⟨rfl,rfl⟩
theorem bcheck_fresh (b:Nat) (w:World) (h0:w.cell? ⟨b,0,none⟩=some (.pointer none)) (hsh:w.shape? b=some (T,2)) (hfz:w.frozen? ⟨b,0,none⟩=false) :
  Calls Tryz.prog 60 #[.pointer (some ⟨b,0,none⟩)] w fun e w'=>e=.returned (.tuple #[])∧w.setCell ⟨b,0,none⟩ (.pointer (some ⟨b,0,none⟩))=w':=by
 obtain⟨j,hj,hjs⟩:=Option.map_eq_some_iff.1 (show(Tryz.prog.info? 85).map (·.size)=some 2 by kernel_rfl);have HL:=zh hT.lies;go_in;go_wp2
 rw[Lib.run_to_unsafe w ⟨b,0,none⟩ Tryz.underlying82 Tryz.underlying160 hj (by rw[hjs];decide) hsh (Nat.zero_lt_succ 1)];simp only[Result.andThen];rw[Oper.upon_value];go_wp2
 rw[run_callFunc_extern Tryz.func93 (by kernel_rfl) (by kernel_rfl) (by kernel_rfl) (e:=Extern.AbiNoEscape.same) (by kernel_rfl)];rw[Lib.run_noEscape];simp only[Result.andThen];rw[Oper.upon_value];go_wp2
 rw[Lib.run_from_unsafe w ⟨b,0,none⟩ Tryz.underlying160 Tryz.underlying82 hj hsh HL.out];simp only[Result.andThen];rw[Oper.upon_value];go_wp2
 go_end0;exact⟨rfl,rfl⟩
theorem bcheck_any (B b:Nat) (bs:List Value) (w:World) (h:Lib.IsBuilderF T 5 B b bs w) :
  Calls Tryz.prog 60 #[.pointer (some ⟨b,0,none⟩)] w fun e w'=>e=.returned (.tuple #[])∧(Lib.BuilderAtF T 5 B b (.pointer (some ⟨b,0,none⟩)) bs w'∧Below B w w'∧Lib.OthersKept 5 (some b) w w'):=by
 rcases h with h|h
 ·refine(bcheck_fresh hT b w h.cell0 h.shape h.frozen0).mono ?_;rintro e w' ⟨rfl,rfl⟩;exact⟨rfl,h.used _,(Below.refl B w).setCell (p:=⟨b,0,none⟩) h.1 _,(Lib.OthersKept.refl _ _ w).setCell ⟨b,0,none⟩ rfl _⟩
 ·refine(bcheck_used hT b w h.cell0).mono ?_;rintro e w' ⟨rfl,rfl⟩;exact⟨rfl,h,Below.refl B _,Lib.OthersKept.refl _ _ _⟩
theorem bbyte_any (B b:Nat) (bs:List Value) (c:Int) (w:World) (h:Lib.IsBuilderF T 5 B b bs w) (hlen:bs.length+1≤140737488355328) (hBw:B≤w.heap.size) :
  Calls Tryz.prog 49 #[.pointer (some ⟨b,0,none⟩),.int .u8 c] w fun e w'=>e=.returned .nilIface∧(Lib.BuilderAtF T 5 B b (.pointer (some ⟨b,0,none⟩)) (bs++[.int .u8 c]) w'∧Below B w w'∧Lib.OthersKept 5 (some b) w w'):=by
 obtain⟨i0,hi,hz0,hz1,hz2⟩:=Go.info_parts (show(Tryz.prog.info? 5).map (fun i=>(i.zero,i.size,i.bytes))=some (some (.int .u8 0),1,1) by kernel_rfl);have HC:=zh (bcheck_any hT B b bs);have HN:=zh hT.ne;go_in;go_wp2_with fail
 refine(HC.out _ h).mono ?_;rintro e w1 ⟨rfl,h1,hb1,hk1⟩;obtain⟨hB,v,hbk,hown,hne⟩:=h1;obtain⟨c0,c1⟩:=cells2 hbk;go_wp2_with (at_builtin;refine wpList_append_ownF _ rfl _ _ 83 rfl B 5 i0 (.int .u8 0) 1 1 Tryz.underlying83 hi hz0 hz1 hz2 rfl (by decide) _ _ _ rfl (hown.alloc _) ⟨w1.heap.size,0,none⟩ 1 1 [.int .u8 c] rfl rfl ?c1 ?c2 ?c3 ?c4 ?c5 ?_)
 case c1 =>
  intro j u hj;match j,hj with
  | 0,hj=>simp at hj;subst hj;simp[Addr.add]
 case c2=>intro u hu;simp at hu;subst hu;rfl
 case c3=>unfold maxLen;omega
 case c4=>omega
 case c5=>have:=hb1.size;simp;omega
 intro v' w2 hown' hgrow _;have hlt:b<w1.heap.size:=by
  rcases Nat.lt_or_ge b w1.heap.size with h'|h'
  ·exact h'
  ·simp[Array.getElem?_eq_none h']at hbk
 have hb2:w2.heap[b]?=some (.cells #[.pointer (some ⟨b,0,none⟩),v] T (0,0)):=by
  rw[hgrow.block b (by simp;omega) (fun e=>hne e.symm),Lib.alloc_old w1 _ b hlt];exact hbk
 obtain⟨d0,d1⟩:=cells2 hb2;have f1:w2.frozen? ⟨b,1,none⟩=false:=Lib.frozen_of_heap hb2 1;obtain⟨g,cap,rfl⟩:∃ g cap,v'=.slice (some ⟨g,0,none⟩) (bs.length+1) cap:=by
  rcases hown'.2 with ⟨_,h0⟩|⟨g,cap,cur,fz,hv,_⟩
  ·omega
  ·exact⟨g,cap,hv⟩
 go_wp2
 go_ret;refine⟨rfl,?_,?_,((hk1.alloc _).grown hgrow (Lib.ownsRowF_kind (hown.alloc _))).setCell ⟨b,1,none⟩ rfl _⟩
 ·exact Lib.BuilderAtF.put (T:=T) (e:=5) hB hb2 (bs':=bs++[.int .u8 c]) (by simpa using hown') HN.out
 ·exact((hb1.alloc (by have:=hb1.size;omega) _).grown hgrow (by have:=hb1.size;simp;omega) (fun k hk=>(hown.lt k hk).1)).setCell (p:=⟨b,1,none⟩) hB _
theorem bstring_any (B b:Nat) (bs:List Value) (s:ByteArray) (w:World) (h:Lib.IsBuilderF T 5 B b bs w) (hlen:bs.length+s.size≤140737488355328) (hBw:B≤w.heap.size) :
  Calls Tryz.prog 30 #[.pointer (some ⟨b,0,none⟩),.string s] w fun e w'=>e=.returned (.tuple #[.int .i64 s.size,.nilIface])∧(Lib.BuilderAtF T 5 B b (.pointer (some ⟨b,0,none⟩)) (bs++Lib.strCells s) w'∧Below B w w'∧Lib.OthersKept 5 (some b) w w'):=by
 obtain⟨i0,hi,hz0,hz1,hz2⟩:=Go.info_parts (show(Tryz.prog.info? 5).map (fun i=>(i.zero,i.size,i.bytes))=some (some (.int .u8 0),1,1) by kernel_rfl);have HC:=zh (bcheck_any hT B b bs);have HN:=zh hT.ne;go_in;go_wp2_with fail
 refine(HC.out _ h).mono ?_;rintro e w1 ⟨rfl,h1,hb1,hk1⟩;obtain⟨hB,v,hbk,hown,hne⟩:=h1;obtain⟨c0,c1⟩:=cells2 hbk;go_wp2_with (at_builtin;refine Lib.wpList_append_own_stringF _ rfl _ _ 83 9 rfl B 5 i0 Tryz.underlying83 Tryz.underlying9 hi hz0 hz1 hz2 _ _ _ rfl hown s rfl ?c3 ?c4 ?c5 ?_)
 case c3=>unfold maxLen;omega
 case c4=>omega
 case c5=>have:=hb1.size;omega
 intro v' w2 hown' hgrow _;have hlt:b<w1.heap.size:=by
  rcases Nat.lt_or_ge b w1.heap.size with h'|h'
  ·exact h'
  ·simp[Array.getElem?_eq_none h']at hbk
 have hb2:w2.heap[b]?=some (.cells #[.pointer (some ⟨b,0,none⟩),v] T (0,0)):=by
  rw[hgrow.block b hlt (fun e=>hne e.symm)];exact hbk
 obtain⟨d0,d1⟩:=cells2 hb2;have f1:w2.frozen? ⟨b,1,none⟩=false:=Lib.frozen_of_heap hb2 1;obtain⟨ao,n',cap,rfl⟩:∃ ao n' cap,v'=.slice ao n' cap:=by
  rcases hown'.2 with ⟨hv,_⟩|⟨g,cap,cur,fz,hv,_⟩
  ·exact⟨_,_,_,hv⟩
  ·exact⟨_,_,_,hv⟩
 go_wp2
 go_ret2;refine⟨rfl,?_,?_,(hk1.grown hgrow (Lib.ownsRowF_kind hown)).setCell ⟨b,1,none⟩ rfl _⟩
 ·exact Lib.BuilderAtF.put (T:=T) (e:=5) hB hb2 (bs':=bs++Lib.strCells s) (by simpa [Lib.strCells_length] using hown') HN.out
 ·exact(hb1.grown hgrow (by have:=hb1.size;omega) (fun k hk=>(hown.lt k hk).1)).setCell (p:=⟨b,1,none⟩) hB _
theorem btext_any (B b:Nat) (l:List UInt8) (w:World) (h:Lib.IsBuilderF T 5 B b (Lib.byteCells l) w) (hBw:B≤w.heap.size) :
  Calls Tryz.prog 44 #[.pointer (some ⟨b,0,none⟩)] w fun e w'=>e=.returned (.string ⟨l.toArray⟩)∧Below B w w':=by
 have _:=hT.ne;obtain⟨p,hAt⟩:∃ p,Lib.BuilderAtF T 5 B b p (Lib.byteCells l) w:=by
  rcases h with h|h<;>exact⟨_,h⟩
 have hlt:=hAt.lt;obtain⟨hB,v,hbk,hown,hne⟩:=hAt;rw[Lib.byteCells_length]at hown;rcases hown.2 with ⟨rfl,hl⟩|⟨g,cap,cur,fz,rfl,hbg,hg,hfz,hnc,hcm,hcs,htake⟩
 ·obtain rfl:l=[]:=List.length_eq_zero_iff.1 hl;have c1:w.cell? ⟨b,1,none⟩=some (.slice none 0 0):=by rw[zc hbk];rfl
  have hUS:∀ (W:World) (q:Option Addr),(Builtin.unsafeString_ #[142,3] 9 #[.pointer q,.int .i64 0]).run Tryz.prog W=.ok (.string .empty) W:=fun W q=>Lib.run_unsafeString_none W _ _ _ q
  have hSD:∀ W:World,(Builtin.unsafeSliceData_ #[83] 142 #[.slice none 0 0]).run Tryz.prog W=.ok (.pointer none) W:=fun _=>rfl
  clear hown hne hbk;go_in;go_wp2
  go_region
  all_goals (go_wp2;go_ret;exact⟨rfl,Below.drew (Below.refl B w)⟩)
 ·by_cases h0:l=[]
  ·subst h0;have hUS:∀ (W:World) (q:Option Addr),(Builtin.unsafeString_ #[142,3] 9 #[.pointer q,.int .i64 0]).run Tryz.prog W=.ok (.string .empty) W:=fun W q=>Lib.run_unsafeString_none W _ _ _ q
   by_cases hc0:cap=0
   ·subst hc0;have c1:w.drew.cell? ⟨b,1,none⟩=some (.slice (some ⟨g,0,none⟩) 0 0):=by
     have:w.drew.heap[b]?=some (.cells #[p,.slice (some ⟨g,0,none⟩) 0 0] T (0,0)):=hbk;rw[zc this];rfl
    have hSD:(Builtin.unsafeSliceData_ #[83] 142 #[.slice (some ⟨g,0,none⟩) 0 0]).run Tryz.prog w.drew=.ok (.pointer (some ⟨w.drew.heap.size,0,none⟩)) (w.drew.alloc (.view ⟨g,0,none⟩ 5)) :=
     Lib.run_unsafeSliceData_zero w.drew _ _ 5 Tryz.underlying142 ⟨g,0,none⟩ 0 (5,cur.size) (by have hg':w.drew.heap[g]?=some (.cells cur 5 fz):=hg;simp[World.shape?,hg'])
    have c2:(w.drew.alloc (.view ⟨g,0,none⟩ 5)).cell? ⟨b,1,none⟩=some (.slice (some ⟨g,0,none⟩) 0 0):=by
     have:(w.drew.alloc (.view ⟨g,0,none⟩ 5)).heap[b]?=_:=(Lib.alloc_old w.drew _ b hlt).trans hbk;rw[zc this];rfl
    have c3:(w.alloc (.view ⟨g,0,none⟩ 5)).drew.cell? ⟨b,1,none⟩=some (.slice (some ⟨g,0,none⟩) 0 0):=c2;have c0:w.cell? ⟨b,1,none⟩=some (.slice (some ⟨g,0,none⟩) 0 0):=c1;clear hown hne hbk htake hcs hcm hnc hfz hg;go_in;go_wp2
    go_region
    all_goals (go_wp2;go_ret;exact⟨rfl,(Below.drew (Below.refl B w)).alloc hBw _⟩)
   ·have c1:w.cell? ⟨b,1,none⟩=some (.slice (some ⟨g,0,none⟩) 0 cap):=by rw[zc hbk];rfl
    have hSD:∀ W:World,(Builtin.unsafeSliceData_ #[83] 142 #[.slice (some ⟨g,0,none⟩) 0 cap]).run Tryz.prog W=.ok (.pointer (some ⟨g,0,none⟩)) W:=fun _=>Lib.run_unsafeSliceData_row _ _ _ _ _ _ hc0
    clear hown hne hbk htake hcs hcm hnc hfz hg hc0;go_in;go_wp2
    go_region
    all_goals (go_wp2;go_ret;exact⟨rfl,Below.drew (Below.refl B w)⟩)
  ·have hl0:l.length≠0:=by simpa using h0
   have c1:w.drew.cell? ⟨b,1,none⟩=some (.slice (some ⟨g,0,none⟩) l.length cap):=by
    have:w.drew.heap[b]?=some (.cells #[p,.slice (some ⟨g,0,none⟩) l.length cap] T (0,0)):=hbk;rw[zc this];rfl
   have hSD:(Builtin.unsafeSliceData_ #[83] 142 #[.slice (some ⟨g,0,none⟩) l.length cap]).run Tryz.prog w.drew=.ok (.pointer (some ⟨g,0,none⟩)) w.drew :=
    Lib.run_unsafeSliceData_row _ _ _ _ _ _ (by omega)
   have hUS:(Builtin.unsafeString_ #[142,3] 9 #[.pointer (some ⟨g,0,none⟩),.int .i64 l.length]).run Tryz.prog w.drew=.ok (.string ⟨l.toArray⟩) (w.drew.freeze ⟨g,0,none⟩ l.length):=by
    refine Lib.run_unsafeString_row w.drew 142 3 9 5 Tryz.underlying142 (by kernel_rfl) g cur.size (by have hg':w.drew.heap[g]?=some (.cells cur 5 fz):=hg;simp[World.shape?,hg']) l h0 (by omega) (by unfold maxLen at hcm;omega) ?_;intro j x hx;have:=hown.cells (g:=g) rfl j (.int .u8 x.toNat) (by simp[Lib.byteCells,hx]);exact this
   clear hown hne hbk htake hcs hcm hnc hfz hg;go_in;go_wp2
   go_region
   all_goals (go_wp2;go_ret;exact⟨rfl,Lib.below_freeze (Below.drew (Below.refl B w)) (p:=⟨g,0,none⟩) hbg _⟩)
end
/-- a writer of the call's own, of such a type -/
def Bld (T:TypeId) (B b:Nat) (o:List UInt8) (w:World):Prop:=B≤w.heap.size∧Lib.IsBuilderF T 5 B b (Lib.byteCells o) w
/-- whatever is no row of bytes, and not block b, is as it was; nor is anything that lay below B another -/
def Wrote (B b:Nat) (w w':World):Prop:=Below B w w'∧Lib.OthersKept 5 (some b) w w'
theorem Wrote.refl (B b:Nat) (w:World):Wrote B b w w:=⟨Below.refl _ _,Lib.OthersKept.refl _ _ _⟩
theorem Wrote.trans {B b:Nat} {u w x:World} (h:Wrote B b u w) (k:Wrote B b w x):Wrote B b u x:=⟨h.1.trans k.1,h.2.trans k.2⟩
theorem Wrote.alloc {B b:Nat} {u w:World} (h:Wrote B b u w) (hB:B≤w.heap.size) (o:Obj):Wrote B b u (w.alloc o):=⟨h.1.alloc hB o,h.2.alloc o⟩
theorem Wrote.drew {B b:Nat} {u w:World} (h:Wrote B b u w):Wrote B b u w.drew:=⟨h.1.drew,h.2.drew⟩
theorem Wrote.below {B b:Nat} {u w x:World} (h:Wrote B b u w) (hB:B≤w.heap.size) (k:Below w.heap.size w x):Wrote B b u x :=
 ⟨h.1.trans (k.mono hB),h.2.trans fun i _ hi _ _=>(k.block i (lt_of_block hi)).trans hi⟩
theorem Wrote.size {B b:Nat} {u w:World} (h:Wrote B b u w):u.heap.size≤w.heap.size:=h.1.size
theorem Wrote.block {B b k:Nat} {u w:World} {cs:Array Value} {T:TypeId} {fz:Nat × Nat} (h:Wrote B b u w) (hk:u.heap[k]?=some (.cells cs T fz)) (hb:k≠b) (hT:T≠5):w.heap[k]?=some (.cells cs T fz) :=
 h.2 k _ hk (fun e=>hb (Option.some.inj e)) (fun c f e=>hT (by injection e))
theorem Bld.fresh (T:TypeId) (w:World):Bld T w.heap.size w.heap.size [] (w.alloc (.cells #[.pointer none,.slice none 0 0] T)) :=
 ⟨by simp,.inl ⟨Nat.le_refl _,.slice none 0 0,heap_alloc_new w _,⟨rfl,.inl ⟨rfl,rfl⟩⟩,by simp[Value.ownBlock]⟩⟩
theorem Bld.below {T:TypeId} {B b:Nat} {o:List UInt8} {w w':World} (h:Bld T B b o w) (hb:Below w.heap.size w w'):Bld T B b o w':=by
 obtain⟨hB,h⟩:=h;refine⟨Nat.le_trans hB hb.size,?_⟩;have kept:∀ {v:Value} {n:Nat} {bs:List Value},w.ownsRowF B 5 1 v n bs→w'.ownsRowF B 5 1 v n bs:=fun h =>
  h.kept (row:=none) ⟨hb.os,hb.tape,hb.output,hb.size,fun k hk _=>hb.block k hk⟩ (Classical.em _)
 rcases h with h|h<;>obtain⟨hb0,v,hbk,hown,hn⟩:=h
 ·exact .inl ⟨hb0,v,(hb.block _ (lt_of_block hbk)).trans hbk,kept hown,hn⟩
 ·exact .inr ⟨hb0,v,(hb.block _ (lt_of_block hbk)).trans hbk,kept hown,hn⟩
theorem Bld.alloc {T:TypeId} {B b:Nat} {o:List UInt8} {w:World} (h:Bld T B b o w) (x:Obj):Bld T B b o (w.alloc x):=h.below ((Below.refl _ _).alloc (Nat.le_refl _) _)
theorem Bld.drew {T:TypeId} {B b:Nat} {o:List UInt8} {w:World} (h:Bld T B b o w):Bld T B b o w.drew:=h
theorem Bld.lt {T:TypeId} {B b:Nat} {o:List UInt8} {w:World} (h:Bld T B b o w):b<w.heap.size∧B≤b:=by
 rcases h.2 with h|h<;>exact⟨h.lt,h.1⟩
theorem Bld.write {T:TypeId} (hT:BT T) {B b:Nat} {o:List UInt8} {w:World} (h:Bld T B b o w) (hlen:o.length≤100000000) (c:UInt8) :
  Calls Tryz.prog 49 #[.pointer (some ⟨b,0,none⟩),.int .u8 c.toNat] w fun e w'=>e=.returned .nilIface∧Bld T B b (o++[c]) w'∧Wrote B b w w' :=
 (bbyte_any hT B b (Lib.byteCells o) c.toNat w h.2 (by rw[Lib.byteCells_length];omega) h.1).mono fun _ _ ⟨he,h1,h2,h3⟩=>⟨he,⟨Nat.le_trans h.1 h2.size,.inr (by rw[Lib.byteCells_append];exact h1)⟩,h2,h3⟩
theorem Bld.writeS {T:TypeId} (hT:BT T) {B b:Nat} {o:List UInt8} {w:World} (h:Bld T B b o w) (l:List UInt8) (hlen:o.length+l.length≤100000000) :
  Calls Tryz.prog 30 #[.pointer (some ⟨b,0,none⟩),.string ⟨l.toArray⟩] w fun e w'=>e=.returned (.tuple #[.int .i64 l.length,.nilIface])∧Bld T B b (o++l) w'∧Wrote B b w w' :=
 (bstring_any hT B b (Lib.byteCells o) ⟨l.toArray⟩ w h.2 (by rw[Lib.byteCells_length];show o.length+l.toArray.size≤_;simp;omega) h.1).mono fun _ _ ⟨he,h1,h2,h3⟩=>⟨by rw[he];rfl,⟨Nat.le_trans h.1 h2.size,.inr (by rw[Lib.byteCells_append];exact h1)⟩,h2,h3⟩
theorem Bld.text {T:TypeId} (hT:BT T) {B b:Nat} {o:List UInt8} {w:World} (h:Bld T B b o w) :
  Calls Tryz.prog 44 #[.pointer (some ⟨b,0,none⟩)] w fun e w'=>e=.returned (.string ⟨o.toArray⟩)∧Below B w w' :=
 btext_any hT B b o w h.2 h.1
end
section
open Go.RowKit
theorem bt_codec:BT 129:=⟨by kernel_rfl,by decide⟩
theorem or_small:∀ k:Nat,k<256→bits .or .u8 (k:Int) 128=((k % 128+128:Nat):Int):=by decide +kernel
theorem or_128 (n:Nat):bits .or .u8 ((n:Int) % 256) 128=((UInt8.ofNat (n % 128+128)).toNat:Int):=by
 have:=or_small (n % 256) (by omega);rw[show((n % 256:Nat):Int)=(n:Int) % 256 from by omega]at this;rw[this];simp[UInt8.toNat_ofNat'];omega
theorem u8_mod (n:Nat):(n:Int) % 256=((UInt8.ofNat n).toNat:Int):=by
 simp[UInt8.toNat_ofNat']
theorem uintB_big {f n:Nat} (h:128≤n):uintB (f+1) n=UInt8.ofNat (n % 128+128)::uintB f (n / 128):=by
 rw[uintB,if_neg (by omega)]
theorem uintB_small {f n:Nat} (h:n<128):uintB (f+1) n=[UInt8.ofNat n]:=by
 rw[uintB,if_pos h]
theorem cuint_any (n:Nat) (hn:n<18446744073709551616) (B b:Nat) (o:List UInt8) (ho:o.length≤10000000) (w:World) (hb:Bld 129 B b o w) :
  Calls Tryz.prog 76 #[.pointer (some ⟨b,0,none⟩),.int .u64 (n:Int)] w fun e w'=>e=.returned (.tuple #[])∧Bld 129 B b (o++uintS n) w'∧Wrote B b w w':=by
 have HW:=zh (fun(o:List UInt8) (w:World) (h:Bld 129 B b o w) (hl:o.length≤100000000) (c:UInt8)=>h.write bt_codec hl c);have HO:=zh (fun k=>or_128 k);go_in;go_wp2_with fail
 go_loopw [1] (fun v wr=>∃ (m f:Nat) (q:List UInt8),v=.int .u64 (m:Int)∧m<2*128 ^ f∧f≤9∧q.length+f=o.length+9∧Hid (o++uintS n=q++uintB (f+1) m)∧Bld 129 B b q wr∧Wrote B b w wr) (fun v _=>(intOf v).toNat)
 case atStart=>exact⟨n,9,o,rfl,by simpa using hn,by omega,rfl,rfl,hb,Wrote.refl _ _ _⟩
 case round =>
  obtain⟨m,f,q,rfl,hm,hf,hq,hO,hbd,hwr⟩:=hrel;by_cases h1:128≤m
  ·have t1:decide ((128:Int)≤(m:Int))=true:=by simp;omega
   obtain⟨f,rfl⟩:∃ g,f=g+1:=⟨f - 1,by
    rcases f with _|f
    ·simp at hm;omega
    ·omega⟩
   have hm2:m / 128<2*128 ^ f:=by rw[Nat.pow_succ]at hm;omega
   have HS:=zh (uintB_big (f:=f+1) h1);have HC:=zh (HW.out q wr hbd (by omega) (UInt8.ofNat (m % 128+128)));have HO':=zh (HO.out m);clear hm;go_wp2_with fail
   rw[HO'.out];refine(HC.out).mono ?_;rintro e w1 ⟨rfl,hb1,hw1⟩;go_wp2_with fail
   go_roundw
   case rel=>exact⟨m / 128,f,q++[UInt8.ofNat (m % 128+128)],by go_num,hm2,by omega,by simp;omega,by show _=_;rw[hO.out,HS.out,List.append_assoc];rfl,hb1,hwr.trans hw1⟩
   case measure=>simp[intOf];omega
  ·have t1:decide ((128:Int)≤(m:Int))=false:=by simp;omega
   have HS:=zh (uintB_small (f:=f) (show m<128 by omega));have HC:=zh (HW.out q wr hbd (by omega) (UInt8.ofNat m));have HO':=zh (show(m:Int)=((UInt8.ofNat m).toNat:Int) from by rw[←u8_mod];omega);go_wp2_with fail
   rw[show Value.int .u8 (m:Int)=.int .u8 ((UInt8.ofNat m).toNat:Int) from congrArg _ HO'.out];refine(HC.out).mono ?_;rintro e w1 ⟨rfl,hb1,hw1⟩;go_wp2_with fail
   go_end0;exact⟨rfl,by rw[hO.out,HS.out];exact hb1,hwr.trans hw1⟩
/-- what a call hands back that makes memory of its own alone -/
def Gives (v:Value) (w:World) (e:Ending) (w':World):Prop:=e=.returned v∧Below w.heap.size w w'
theorem cUint_any (n:Nat) (hn:n<18446744073709551616) (w:World) :
  Calls Tryz.prog 46 #[.int .u64 (n:Int)] w (Gives (.string ⟨(uintS n).toArray⟩) w):=by
 have HW:=zh (fun(B b:Nat) (w:World) (h:Bld 129 B b [] w)=>cuint_any n hn B b [] (by simp) w h);have HT:=zh (fun(B b:Nat) (o:List UInt8) (w:World) (h:Bld 129 B b o w)=>h.text bt_codec);have hF:=Bld.fresh 129 w;have hB0:Below w.heap.size w (w.alloc (.cells #[.pointer none,.slice none 0 0] 129)):=(Below.refl _ _).alloc (Nat.le_refl _) _;go_in;go_wp2_with fail
 refine(HW.out _ _ _ hF).mono ?_;rintro e w1 ⟨rfl,hb1,hw1⟩;go_wp2_with fail
 refine(HT.out _ _ _ _ hb1).mono ?_;rintro e w2 ⟨rfl,hb2⟩;go_wp2_with fail
 go_ret;exact⟨rfl,(hB0.trans hw1.1).trans hb2⟩
end
section
open Go.RowKit
theorem below_bytes (w:World) (e:TypeId) (s:ByteArray):Below w.heap.size w (Lib.bytesWorld w e s) :=
 Lib.below_freeze (((Below.refl _ _).drew).alloc (Nat.le_refl _) _) (p:=⟨w.heap.size,_,none⟩) (Nat.le_refl _) 1
theorem vname_any (s:ByteArray) (w:World):Calls Tryz.prog 168 #[.string s] w (Gives (.bool (nmB s.data.toList)) w):=by
 have hl:s.data.toList.length=s.size:=by simp
 have HL:=zh hl;clear hl;by_cases h1:s.size<1
 ·have hs0:s.toList=[]:=by rw[ByteArray.toList_eq];exact List.length_eq_zero_iff.1 (by rw[HL.out];omega)
  have HX:=zh (nmB_short (l:=s.data.toList) (by rw[HL.out];omega));clear h1;go_in;go_wp2_with fail
  go_ret;exact⟨ret_val (by rw[HX.out];rfl),Below.refl _ _⟩
 ·have hs1:s.toList.isEmpty=false:=by
   rw[ByteArray.toList_eq];cases hd:s.data.toList with
   | nil=>have:=HL.out;rw[hd]at this;simp at this;omega
   | cons x y=>rfl
  have hs2:¬ s.toList=[]:=by intro h;rw[h]at hs1;cases hs1
  by_cases h2:30<s.size
  ·have t2:decide ((30:Int)<(s.size:Int))=true:=by simp;omega
   have HX:=zh (nmB_short (l:=s.data.toList) (by rw[HL.out];omega));go_in;go_wp2_with fail
   go_ret;exact⟨ret_val (by rw[HX.out];rfl),Below.refl _ _⟩
  ·have t2:decide ((30:Int)<(s.size:Int))=false:=by simp;omega
   have t2':¬ 30<s.size:=h2;have hcv:=fun w=>Lib.run_convert_string_bytes (P:=Tryz.prog) w 9 83 5 s Tryz.underlying9 Tryz.underlying83 Tryz.underlying5
   have hbw:=below_bytes w 5 s;have hcell:=fun j hj=>Lib.bytesWorld_cell w 5 s j hj
   have HCell:=zh hcell;have HBw:=zh hbw;clear hcell hbw;go_in;go_wp2_with fail
   generalize Lib.bytesWorld w 5 s=W0 at *;generalize grownCap w s.size 0 5=gc at *;go_loop [15] (fun kv=>∃ k:Nat,k≤s.size∧kv=.int .i64 k∧NmTo s.data.toList k) (fun kv=>s.size - (intOf kv).toNat)
   case atStart=>exact⟨0,Nat.zero_le _,rfl,NmTo.zero _⟩
   case round =>
    obtain⟨k,hk,rfl,hnm⟩:=hrel;by_cases hlt:k<s.size
    ·have t0:decide ((k:Int)<(s.size:Int))=true:=by simp;omega
     have hcl:=HCell.out k hlt;have b1:(0:Int)≤(k:Int):=by omega
     have b2:(k:Int)<(s.size:Int):=by omega
     have hg0:s.data.toList.getD k 0=s[k]'hlt:=by simp[List.getD,hlt];rfl
     have HStep:=zh (fun hn h0=>hnm.step (by rw[HL.out];exact hlt) hn h0);have HNo:=zh (fun hn=>nmB_no (l:=s.data.toList) (k:=k) (by rw[HL.out];exact hlt) hn);rw[hg0]at HStep HNo hcl;have hN0:isLet (s[k]'hlt)=false→k=0→nmB s.data.toList=false:=by
      intro h hk0;refine nmB_no0 ?_;rw[←hg0]at h;rw[hk0]at h;exact h
     have HNo0:=zh hN0;clear hnm hg0 hN0;have hLt:isLet (s[k]'hlt)=(decide ((97:Int)≤((s[k]'hlt).toNat:Int))&&decide (((s[k]'hlt).toNat:Int)≤122)):=by
      unfold isLet;rw[Bool.eq_iff_iff];simp;omega
     have hDg:isDig (s[k]'hlt)=(decide ((48:Int)≤((s[k]'hlt).toNat:Int))&&decide (((s[k]'hlt).toNat:Int)≤57)):=by
      show decide (48≤(s[k]'hlt).toNat∧(s[k]'hlt).toNat≤57)=_;rw[Bool.eq_iff_iff];simp;omega
     have hNm:isNm (s[k]'hlt)=(isLet (s[k]'hlt)||isDig (s[k]'hlt)||((s[k]'hlt).toNat:Int)==95):=by unfold isNm;rw[u8_beqV (s[k]'hlt) 95];rfl
     rw[hLt,hDg]at hNm;have HNm:=zh hNm;have HLt:=zh hLt;clear hNm hLt hDg;cases a1:decide ((97:Int)≤((s[k]'hlt).toNat:Int))<;>cases a2:decide (((s[k]'hlt).toNat:Int)≤122)
     case true.true =>
      rw[a1,a2]at HLt HNm;have HY:=zh (HStep.out (by rw[HNm.out];rfl) (.inr (by rw[HLt.out];rfl)));go_wp2_with fail
      go_round
      case rel=>exact⟨k+1,by omega,by go_num,HY.out⟩
      case measure=>simp[intOf];omega
     all_goals
      rw[a1,a2]at HLt HNm;by_cases hk0:k=0
      ·have HX:=zh (HNo0.out (by rw[HLt.out];rfl) hk0);have tk:decide ((0:Int)<(k:Int))=false:=by simp;omega
       have tkn:¬ 0<k:=by omega
       clear hk0;go_wp2_with fail
       go_ret;exact⟨ret_val (by rw[HX.out];rfl),HBw.out⟩
      ·have tk:decide ((0:Int)<(k:Int))=true:=by simp;omega
       have tkn:0<k:=by omega
       cases a3:decide ((48:Int)≤((s[k]'hlt).toNat:Int))<;>cases a4:decide (((s[k]'hlt).toNat:Int)≤57)
       case neg.true.true =>
        rw[a3,a4]at HNm;have HY:=zh (HStep.out (by rw[HNm.out];rfl) (.inl hk0));cases a5:(((s[k]'hlt).toNat:Int)==95)
        all_goals
         go_wp2_with fail
         go_round
         case rel=>exact⟨k+1,by omega,by go_num,HY.out⟩
         case measure=>simp[intOf];omega
       all_goals
        rw[a3,a4]at HNm;cases a5:(((s[k]'hlt).toNat:Int)==95)
        ·have a6:(((s[k]'hlt).toNat:Int) != 95)=true:=by rw[bne,a5];rfl
         rw[a5]at HNm;have HX:=zh (HNo.out (by rw[HNm.out];rfl));go_wp2_with fail
         go_ret;exact⟨ret_val (by rw[HX.out];rfl),HBw.out⟩
        ·have a6:(((s[k]'hlt).toNat:Int) != 95)=false:=by rw[bne,a5];rfl
         rw[a5]at HNm;have HY:=zh (HStep.out (by rw[HNm.out];rfl) (.inl hk0));go_wp2_with fail
         go_round
         case rel=>exact⟨k+1,by omega,by go_num,HY.out⟩
         case measure=>simp[intOf];omega
    ·have t0:decide ((k:Int)<(s.size:Int))=false:=by simp;omega
     have hks:k=s.size:=by omega
     have t0':¬ k<s.size:=hlt;rw[hks,←HL.out]at hnm;have HX:=zh (hnm.whole (by rw[HL.out];omega) (by rw[HL.out];omega));clear hks hnm;go_wp2_with fail
     go_ret;exact⟨ret_val (by rw[HX.out];rfl),HBw.out⟩
end
section
open Go.RowKit
theorem rising_any (l:List (List UInt8)) (v:Value) (w:World) (h:Strs w l v):Calls Tryz.prog 130 #[v] w (Gives (.bool (risesB l)) w):=by
 obtain⟨h1,h2,h3⟩:=h;have h3':∃ p cap,v=.slice p l.length cap∧∀ i,i<l.length→∃ g off,p=some ⟨g,off,none⟩∧g<w.heap.size∧∀ j,j<l.length→w.cell? ⟨g,off+j,none⟩=some (.string ⟨(l.getD j []).toArray⟩):=by
  rcases h3 with ⟨h3,p,c,hp⟩|⟨g,off,cap,hp,hg,hc⟩
  ·subst h3;exact⟨p,c,hp,fun i hi=>absurd hi (by simp)⟩
  ·exact⟨_,cap,hp,fun i hi=>⟨g,off,rfl,hg,hc⟩⟩
 obtain⟨p,cap,rfl,h4⟩:=h3';have H4:=zh h4;clear h3 h4 h2;have HNo:=zh (fun i hi hk=>rises_no (l:=l) (i:=i) hi hk);have HYes:=zh (fun h=>(rises_iff l).2 h);generalize hN:l.length=N at *;generalize hR:risesB l=R at *;have HN:=zh hN;clear hN hR;generalize hgh:w.heap.size=H at *;have HH:=zh hgh;clear hgh;go_in;go_wp2_with fail
 go_loopw [7] (fun iv wr=>∃ i:Nat,i≤N∧iv=.int .i64 i∧Below H w wr∧Hid (∀ j,j<i→okAt l j=true)) (fun iv _=>N - (intOf iv).toNat)
 case atStart=>exact⟨0,by omega,rfl,Below.refl _ _,fun j hj=>absurd hj (by omega)⟩
 case round =>
  obtain⟨i,hi,rfl,hB,hall⟩:=hrel;have hHw:H≤wr.heap.size:=by have:=hB.size;rw[HH.out]at this;exact this
  by_cases hlt:i<N
  ·have t0:decide ((i:Int)<(N:Int))=true:=by simp;omega
   obtain⟨g,off,rfl,hg,hc⟩:=H4.out i hlt;have x1:wr.cell? ⟨g,off+i,none⟩=some (.string ⟨(l.getD i []).toArray⟩):=(hB.cell (p:=⟨g,off+i,none⟩) hg).trans (hc i hlt);have hy:∀ wx,Below wr.heap.size wr wx→wx.cell? ⟨g,off+(i - 1),none⟩=some (.string ⟨(l.getD (i - 1) []).toArray⟩):=fun wx hx=>((hB.trans (hx.mono hHw)).cell (p:=⟨g,off+(i - 1),none⟩) hg).trans (hc (i - 1) (by omega))
   have hnm:=fun w=>vname_any ⟨(l.getD i []).toArray⟩ w
   rw[show(⟨(l.getD i []).toArray⟩:ByteArray).data.toList=l.getD i [] from rfl]at hnm;have HNm:=zh hnm;have HY2:=zh hy;have HOk:=zh (okAt.eq_def l i);have b1:(0:Int)≤(i:Int):=by omega
   have b2:(i:Int)<(N:Int):=by omega
   clear hc hnm hy;have HAll:=zh (fun(h:okAt l i=true) j (hj:j<i+1)=>(show okAt l j=true from by
    rcases Nat.lt_or_ge j i with g|g
    ·exact hall.out j g
    ·rw[show j=i by omega];exact h))
   have HNi:=zh (HNo.out i hlt);generalize hA:l.getD i []=A at *;generalize hB':l.getD (i - 1) []=B at *;clear hA hB';cases hb:nmB A
   ·rw[hb]at HNm HOk;have HX:=zh (HNi.out (by rw[HOk.out];rfl));go_wp2_with fail
    refine(HNm.out _).mono ?_;rintro e w5 ⟨rfl,hb5⟩;go_wp2_with fail
    go_ret;exact⟨ret_val (by rw[HX.out];rfl),by rw[HH.out];exact hB.trans (hb5.mono hHw)⟩
   ·rw[hb]at HNm HOk;by_cases hi0:i=0
    ·have t1:decide ((0:Int)<(i:Int))=false:=by simp;omega
     have t1':¬ 0<i:=by omega
     have t1n:decide (0<i)=false:=by simp;omega
     have HY:=zh (HAll.out (by rw[HOk.out,decide_eq_true hi0];rfl));clear hi0;go_wp2_with fail
     refine(HNm.out _).mono ?_;rintro e w5 ⟨rfl,hb5⟩;go_wp2_with fail
     go_roundw
     case rel=>exact⟨i+1,by omega,by go_num,hB.trans (hb5.mono hHw),HY.out⟩
     case measure=>simp[intOf];omega
    ·have t1:decide ((0:Int)<(i:Int))=true:=by simp;omega
     have t1p:0<i:=by omega
     have t1n:decide (0<i)=true:=by simp;omega
     have w1:IntKind.i64.wrap ((i:Int) - 1)=((i - 1:Nat):Int):=by rw[IntKind.wrap_i64];omega
     have w2:(0:Int)≤((i - 1:Nat):Int):=by omega
     have w3:((i - 1:Nat):Int)<(N:Int):=by omega
     have e1:(i:Int) - 1=((i - 1:Nat):Int):=by omega
     have HI:=zh (decide_eq_false hi0);clear hi0;cases hl:Op.bytesLess B A
     ·have HX:=zh (HNi.out (by rw[HOk.out,HI.out,hl];rfl));go_wp2_with fail
      refine(HNm.out _).mono ?_;rintro e w5 ⟨rfl,hb5⟩;have y1:=HY2.out _ hb5;go_wp2_with fail
      go_ret;exact⟨ret_val (by rw[HX.out];rfl),by rw[HH.out];exact hB.trans (hb5.mono hHw)⟩
     ·have HY:=zh (HAll.out (by rw[HOk.out,HI.out,hl];rfl));go_wp2_with fail
      refine(HNm.out _).mono ?_;rintro e w5 ⟨rfl,hb5⟩;have y1:=HY2.out _ hb5;go_wp2_with fail
      go_roundw
      case rel=>exact⟨i+1,by omega,by go_num,hB.trans (hb5.mono hHw),HY.out⟩
      case measure=>simp[intOf];omega
  ·have t0:decide ((i:Int)<(N:Int))=false:=by simp;omega
   have hr:=HYes.out (fun j hj=>hall.out j (by omega));have HR:=zh hr;clear hr;go_wp2_with fail
   go_ret;exact⟨ret_val (by rw[HR.out];rfl),by rw[HH.out];exact hB⟩
end
section
open Go.RowKit
/-- all blocks that were there, but for those of l, are as they were -/
structure Fr (l:List Nat) (w w':World):Prop where
 os:w'.os=w.os
 tape:w'.tape=w.tape
 output:w'.output=w.output
 size:w.heap.size≤w'.heap.size
 block:∀ k,k<w.heap.size→k ∉ l→w'.heap[k]?=w.heap[k]?
theorem Fr.refl (l:List Nat) (w:World):Fr l w w:=⟨rfl,rfl,rfl,Nat.le_refl _,fun _ _ _=>rfl⟩
theorem Fr.trans {l:List Nat} {a b c:World} (h:Fr l a b) (k:Fr l b c):Fr l a c :=
 ⟨k.os.trans h.os,k.tape.trans h.tape,k.output.trans h.output,Nat.le_trans h.size k.size,fun i hi hn=>(k.block i (Nat.lt_of_lt_of_le hi h.size) hn).trans (h.block i hi hn)⟩
theorem Fr.mono {l m:List Nat} {w w':World} (h:Fr l w w') (hlm:∀ x ∈ l,x ∈ m):Fr m w w':=⟨h.os,h.tape,h.output,h.size,fun k hk hn=>h.block k hk (fun hx=>hn (hlm k hx))⟩
theorem Fr.of_below {l:List Nat} {w w':World} (h:Below w.heap.size w w'):Fr l w w':=⟨h.os,h.tape,h.output,h.size,fun k hk _=>h.block k hk⟩
theorem Fr.below {l:List Nat} {B:Nat} {w w':World} (h:Fr l w w') (hB:B≤w.heap.size) (hl:∀ x ∈ l,B≤x):Below B w w' :=
 ⟨h.os,h.tape,h.output,h.size,fun k hk=>h.block k (Nat.lt_of_lt_of_le hk hB) (fun hx=>by have:=hl k hx;omega)⟩
theorem Fr.drewN {l:List Nat} {a w:World} (h:Fr l a w) (n:Nat):Fr l a (w.drewN n):=⟨h.os,h.tape,h.output,h.size,h.block⟩
theorem Fr.setCell {l:List Nat} {a w:World} (h:Fr l a w) (p:Addr) (hp:p.block ∈ l) (v:Value):Fr l a (w.setCell p v):=by
 exact h.trans ⟨rfl,rfl,rfl,by simp[World.setCell],fun k _ hn=>Below.heap_setCell _ _ _ _ (fun e=>hn (e ▸ hp))⟩
theorem heap_setN {w:World} {b:Nat} {cs:Array Value} {t:TypeId} (h:w.heap[b]?=some (.cells cs t (0,0))) (i:Nat) (x:Value):(w.setCell ⟨b,i,none⟩ x).heap[b]?=some (.cells (cs.setIfInBounds i x) t (0,0)):=by
 have hlt:=lt_of_block h;have h':w.heap[b]=.cells cs t (0,0):=by simpa [Array.getElem?_eq_getElem hlt] using h
 show(w.heap.modify b _)[b]?=_;rw[Array.getElem?_eq_getElem (by simpa using hlt),Array.getElem_modify_self,h'];rfl
theorem Fr.drew {l:List Nat} {a w:World} (h:Fr l a w):Fr l a w.drew:=⟨h.os,h.tape,h.output,h.size,h.block⟩
theorem Fr.alloc {l:List Nat} {a w:World} (h:Fr l a w) (o:Obj):Fr l a (w.alloc o) :=
 h.trans ⟨rfl,rfl,rfl,by simp,fun k hk _=>Lib.alloc_old w o k hk⟩
theorem Fr.at {l:List Nat} {w w':World} {k:Nat} {x:Obj} (h:Fr l w w') (hk:w.heap[k]?=some x) (hn:k ∉ l):w'.heap[k]?=some x:=(h.block k (Array.getElem?_eq_some_iff.1 hk).1 hn).trans hk
theorem Fr.cell {l:List Nat} {w w':World} {k i:Nat} (h:Fr l w w') (hk:k<w.heap.size) (hn:k ∉ l):w'.cell? ⟨k,i,none⟩=w.cell? ⟨k,i,none⟩:=by
 have:=h.block k hk hn;unfold World.cell?;simp only[this]
theorem undrew {w w':World} (h:Below w.drew.heap.size w.drew w'):Below w.heap.size w w':=⟨h.os,h.tape,h.output,h.size,h.block⟩
end
section
open Go.RowKit
theorem rsign_any (n m:Int) (w:World):Calls Tryz.prog 87 #[.int .i64 n,.int .i64 m] w fun e w'=>e=.returned (.int .i64 (sgnI n m))∧w=w':=by
 have hs:=sgnI.eq_def n m;by_cases h:n<m
 ·have t1:decide (n<m)=true:=decide_eq_true h;rw[if_pos h]at hs;have HS:=zh hs;clear hs;go_in;go_wp2_with fail
  go_ret;exact⟨ret_val (by rw[HS.out];rfl),rfl⟩
 ·have t1:decide (n<m)=false:=decide_eq_false h;rw[if_neg h]at hs;by_cases h2:m<n
  ·have t2:decide (m<n)=true:=decide_eq_true h2;rw[if_pos h2]at hs;have HS:=zh hs;clear hs;go_in;go_wp2_with fail
   go_ret;exact⟨ret_val (by rw[HS.out];rfl),rfl⟩
  ·have t2:decide (m<n)=false:=decide_eq_false h2;rw[if_neg h2]at hs;have HS:=zh hs;clear hs;go_in;go_wp2_with fail
   go_ret;exact⟨ret_val (by rw[HS.out];rfl),rfl⟩
theorem rtext_ord (s t:ByteArray) (w:World):Calls Tryz.prog 89 #[.string s,.string t] w fun e w'=>e=.returned (.int .i64 (txtO s.toList t.toList))∧w=w':=by
 have hs:=txtO.eq_def s.toList t.toList;cases t1:Op.bytesLess s.toList t.toList
 ·rw[t1,if_neg (by decide)]at hs;by_cases h2:s.toList=t.toList
  ·rw[if_pos h2]at hs;have t2:(s.toList==t.toList)=true:=beq_iff_eq.2 h2;have HS:=zh hs;clear hs h2;go_in;go_wp2_with fail
   go_ret;exact⟨ret_val (by rw[HS.out];rfl),rfl⟩
  ·rw[if_neg h2]at hs;have t2:(s.toList==t.toList)=false:=beq_eq_false_iff_ne.2 h2;have HS:=zh hs;clear hs h2;go_in;go_wp2_with fail
   go_ret;exact⟨ret_val (by rw[HS.out];rfl),rfl⟩
 ·rw[t1,if_pos rfl]at hs;have HS:=zh hs;clear hs;go_in;go_wp2_with fail
  go_ret;exact⟨ret_val (by rw[HS.out];rfl),rfl⟩
theorem rtext_ords (s t:List UInt8) (w:World):Calls Tryz.prog 89 #[.string ⟨s.toArray⟩,.string ⟨t.toArray⟩] w fun e w'=>e=.returned (.int .i64 (txtO s t))∧w=w':=by
 have:=rtext_ord ⟨s.toArray⟩ ⟨t.toArray⟩ w;rwa [ByteArray.toList_eq,ByteArray.toList_eq]at this
theorem Strs.row {w:World} {l:List (List UInt8)} {v:Value} (h:Strs w l v):∃ p c,v=.slice p l.length c∧l.length≤140737488355328∧∀ i,i<l.length→∃ g off,p=some ⟨g,off,none⟩∧w.cell? ⟨g,off+i,none⟩=some (.string ⟨(l.getD i []).toArray⟩):=by
 obtain⟨hl,_,h|⟨g,off,cap,h3,h4,h5⟩⟩:=h
 ·obtain⟨rfl,p,c,rfl⟩:=h;exact⟨p,c,rfl,hl,fun i hi=>by simp at hi⟩
 ·exact⟨_,_,h3,hl,fun i hi=>⟨g,off,rfl,h5 i hi⟩⟩
theorem rrows_any (l m:List (List UInt8)) (u v:Value) (w:World) (hu:Strs w l u) (hv:Strs w m v):Calls Tryz.prog 90 #[u,v] w (Gives (.int .i64 (rowsO l m)) w):=by
 obtain⟨p,c,rfl,hln,hcu⟩:=hu.row;obtain⟨q,d,rfl,hlm,hcv⟩:=hv.row;have HT:=zh (fun s t w=>rtext_ords s t w);have HS:=zh (fun n m w=>rsign_any n m w);have HCu:=zh hcu;have HCv:=zh hcv;have HStep:=zh (fun i (h1:i<l.length) h2=>rowsO_step (a:=l) (b:=m) (i:=i) h1 h2);have HEnd:=zh (fun i (h1:i≤l.length) h2 h3=>rowsO_end (a:=l) (b:=m) (i:=i) h1 h2 h3);clear hu hv hcu hcv;generalize l.length=N at *;generalize m.length=M at *;have h0:Hid (rowsO l m=rowsO (l.drop 0) (m.drop 0)):=by show _=_;rw[List.drop_zero,List.drop_zero]
 generalize rowsO l m=R at *;go_in;go_wp2_with fail
 go_loopw [5] (fun iv wr=>∃ i:Nat,iv=.int .i64 (i:Int)∧i≤N∧i≤M∧Hid (R=rowsO (l.drop i) (m.drop i))∧∃ k,wr=w.drewN k) (fun iv _=>N - (intOf iv).toNat)
 case atStart=>exact⟨0,rfl,Nat.zero_le _,Nat.zero_le _,h0,0,rfl⟩
 case round =>
  clear h0;obtain⟨i,rfl,hi,hj,hR,k,rfl⟩:=hrel;by_cases hlt:i<N
  ·have t0:decide ((i:Int)<(N:Int))=true:=by simp;omega
   by_cases hlm:i<M
   ·have t1:decide ((i:Int)<(M:Int))=true:=by simp;omega
    obtain⟨g,off,rfl,c1⟩:=HCu.out i hlt;obtain⟨g',off',rfl,c2⟩:=HCv.out i hlm;replace c1:(w.drewN k).cell? ⟨g,off+i,none⟩=_:=c1;replace c2:(w.drewN k).cell? ⟨g',off'+i,none⟩=_:=c2;have hst:=HStep.out i hlt hlm;have b1:(0:Int)≤(i:Int):=by omega
    have b2:(i:Int)<(N:Int):=by omega
    have b3:(i:Int)<(M:Int):=by omega
    have HT2:=zh (fun w=>HT.out (l.getD i []) (m.getD i []) w);generalize txtO (l.getD i []) (m.getD i [])=T at *;generalize (⟨(l.getD i []).toArray⟩:ByteArray)=s at *;generalize (⟨(m.getD i []).toArray⟩:ByteArray)=s' at *;by_cases hT:T=0
    ·rw[if_pos hT]at hst;subst hT;have HST:=zh hst;clear hst;generalize hW:w.drewN k=W at *;have HW:=zh hW;clear hW;go_wp2_with fail
     go_quiet (refine Calls.quiet_of_same ((HT2.out _).mono fun _ _ h=>⟨h.1,h.2.symm⟩))
     go_wp2_with fail
     go_roundw
     case rel=>exact⟨i+1,by go_num,by omega,by omega,by show _=_;rw[hR.out,HST.out],_,by rw[←HW.out,World.drewN_drewN]⟩
     case measure=>simp[intOf];omega
    ·rw[if_neg hT]at hst;have t2:(T != 0)=true:=by rw[bne_iff_ne];exact hT
     have HST:=zh hst;clear hst hT;generalize hW:w.drewN k=W at *;have HW:=zh hW;clear hW;go_wp2_with fail
     go_quiet (refine Calls.quiet_of_same ((HT2.out _).mono fun _ _ h=>⟨h.1,h.2.symm⟩))
     go_wp2_with fail
     go_ret;exact⟨ret_val (by rw[hR.out,HST.out];rfl),by rw[←HW.out];exact⟨rfl,rfl,rfl,Nat.le_refl _,fun _ _=>rfl⟩⟩
   ·have t1:decide ((i:Int)<(M:Int))=false:=by simp;omega
    have HE:=zh (HEnd.out i hi hj (.inr (by omega)));go_wp2_with fail
    refine(HS.out _ _ _).mono ?_;rintro e w2 ⟨rfl,rfl⟩;go_wp2_with fail
    go_ret;exact⟨ret_val (by rw[hR.out,HE.out];rfl),⟨rfl,rfl,rfl,Nat.le_refl _,fun _ _=>rfl⟩⟩
  ·have t0:decide ((i:Int)<(N:Int))=false:=by simp;omega
   have HE:=zh (HEnd.out i hi hj (.inl (by omega)));go_wp2_with fail
   refine(HS.out _ _ _).mono ?_;rintro e w2 ⟨rfl,rfl⟩;go_wp2_with fail
   go_ret;exact⟨ret_val (by rw[hR.out,HE.out];rfl),⟨rfl,rfl,rfl,Nat.le_refl _,fun _ _=>rfl⟩⟩
end
section
open Go.RowKit
theorem rank_any (b:Nat) (hb:F64 b) (w:World):Calls Tryz.prog 180 #[.float .f64 b] w fun e w'=>e=.returned (.tuple #[.int .i64 (rank1 b),.int .i64 (rank2 b)])∧w=w':=by
 have h1:=ord_ne b b;rw[feq_self]at h1;have hz:Fl.feq b 0=(!Fl.isNaN b&&isZ b):=by
  unfold Fl.feq Fl.K isZ;cases Fl.isNaN b<;>simp[show Fl.isNaN 0=false from by decide,show Fl.rg 0=0 from by decide,show Fl.ng 0=false from by decide]
  cases Fl.ng b<;>simp
 have h2:=ord_eq b 0;rw[hz]at h2;clear hz;cases hn:Fl.isNaN b
 ·rw[hn]at h1 h2;cases hz:isZ b
  ·rw[hz]at h2;have H1:=zh (show rank1 b=0 from by simp[rank1,hn]);have H2:=zh (show rank2 b=0 from by simp[rank2,hn,hz]);go_in;go_wp2
   go_ret2;exact⟨ret_val (by rw[H1.out,H2.out];rfl),rfl⟩
  ·have hr:Fl.rg b=0:=by simpa [isZ] using hz
   rcases ng_cases hb with ⟨h,he⟩|⟨h,he⟩
   ·rw[hr]at he;have H1:=zh (show rank1 b=0 from by simp[rank1,hn]);have H2:=zh (show rank2 b = -1 from by simp[rank2,hn,hz,h]);clear hn hz h hr h1 h2 hb;subst he;have hq:=fun w=>run_float_arith (P:=Tryz.prog) w .quo 24 .f64 4607182418800017408 9223372036854775808 18442240474082181120 (by kernel_rfl)
    have e1:FloatKind.f64.format.order 9223372036854775808 9223372036854775808=some .eq:=by kernel_rfl
    have e2:FloatKind.f64.format.order 9223372036854775808 0=some .eq:=by kernel_rfl
    have e3:FloatKind.f64.format.order 18442240474082181120 0=some .lt:=by kernel_rfl
    go_in;go_wp2
    go_ret2;exact⟨ret_val (by rw[H1.out,H2.out];rfl),rfl⟩
   ·rw[hr]at he;have H1:=zh (show rank1 b=0 from by simp[rank1,hn]);have H2:=zh (show rank2 b=0 from by simp[rank2,hn,hz,h]);clear hn hz h hr h1 h2 hb;subst he;have hq:=fun w=>run_float_arith (P:=Tryz.prog) w .quo 24 .f64 4607182418800017408 0 9218868437227405312 (by kernel_rfl)
    have e1:FloatKind.f64.format.order 0 0=some .eq:=by kernel_rfl
    have e3:FloatKind.f64.format.order 9218868437227405312 0=some .gt:=by kernel_rfl
    go_in;go_wp2
    go_ret2;exact⟨ret_val (by rw[H1.out,H2.out];rfl),rfl⟩
 ·rw[hn]at h1;have H1:=zh (show rank1 b=1 from by simp[rank1,hn]);have H2:=zh (show rank2 b=0 from by simp[rank2,hn]);go_in;go_wp2
  go_ret2;exact⟨ret_val (by rw[H1.out,H2.out];rfl),rfl⟩
def ordO (r1a r1b r2a r2b:Int) (o:Option Ordering):Int :=
 if r1a≠r1b then r1a - r1b else if r1a=1 then 0
 else if (o==some .lt)||((o==some .eq)&&decide (r2a<r2b)) then -1
 else if (o==some .gt)||((o==some .eq)&&decide (r2b<r2a)) then 1 else 0
theorem ordB_O (a b:Nat):ordB a b=ordO (rank1 a) (rank1 b) (rank2 a) (rank2 b) (FloatKind.f64.format.order a b):=by
 rw[←ordF_eq];unfold ordF ordO;have h3:Fl.feq a b=(FloatKind.f64.format.order a b==some .eq):=(ord_eq a b).symm;rw[ord_lt,ord_gt,←h3]
theorem rank1_or (b:Nat):rank1 b=0∨rank1 b=1:=by unfold rank1;split<;>simp
theorem rank2_or (b:Nat):rank2 b=0∨rank2 b = -1:=by unfold rank2;split<;>(try split)<;>simp
theorem order_any (a b:Nat) (ha:F64 a) (hb:F64 b) (w:World):Calls Tryz.prog 144 #[.float .f64 a,.float .f64 b] w fun e w'=>e=.returned (.int .i64 (ordB a b))∧w=w':=by
 have HK:=zh (ordB_O a b);rcases rank1_or a with ea|ea<;>rcases rank1_or b with eb|eb
 case inl.inl =>
  rcases rank2_or a with fa|fa<;>rcases rank2_or b with fb|fb<;>rcases ho:FloatKind.f64.format.order a b with _|o
  all_goals (try cases o)
  all_goals
   rw[ea,eb,fa,fb,ho]at HK;go_in;go_wp2_with fail
   refine(rank_any _ ha _).mono ?_;rintro e w' ⟨rfl,rfl⟩;go_wp2_with fail
   refine(rank_any _ hb _).mono ?_;rintro e w' ⟨rfl,rfl⟩;go_wp2_with fail
   go_ret;exact⟨ret_val (by rw[HK.out];rfl),rfl⟩
 all_goals
  have HV:Hid (ordB a b=rank1 a - rank1 b):=by unfold Hid;rw[HK.out,ea,eb];unfold ordO;split<;>simp_all
  rw[ea,eb]at HV;go_in;go_wp2_with fail
  refine(rank_any _ ha _).mono ?_;rintro e w' ⟨rfl,rfl⟩;go_wp2_with fail
  refine(rank_any _ hb _).mono ?_;rintro e w' ⟨rfl,rfl⟩;go_wp2_with fail
  go_ret;exact⟨ret_val (by rw[HV.out];rfl),rfl⟩
end
section
open Go.RowKit
/-- a value behind a pointer -/
def PtrTo (w:World) (d:Nat) (v:VT) (g o:Nat):Prop:=g<w.heap.size∧∃ cs,ValAt w d v cs∧∀ j,j<6→w.cell? ⟨g,o+j,none⟩=cs[j]?
theorem PtrTo.kept {w w':World} {d:Nat} {v:VT} {g o:Nat} (h:PtrTo w d v g o) (hb:Below w.heap.size w w'):PtrTo w' d v g o:=by
 obtain⟨hg,cs,h1,h2⟩:=h;exact⟨Nat.lt_of_lt_of_le hg hb.size,cs,h1.kept hb,fun j hj=>(hb.cell (p:=⟨g,o+j,none⟩) hg).trans (h2 j hj)⟩
/-- its six cells, and what its items are -/
theorem PtrTo.open {w:World} {d:Nat} {v:VT} {g o:Nat} (h:PtrTo w (d+1) v g o):∃ pn p cap,g<w.heap.size∧w.cell? ⟨g,o,none⟩=some (.int .i64 v.kind)∧w.cell? ⟨g,o+1,none⟩=some (.int .i64 v.num)∧w.cell? ⟨g,o+2,none⟩=some (.float .f64 v.flt) ∧
  w.cell? ⟨g,o+3,none⟩=some (.string ⟨v.str.toArray⟩)∧w.cell? ⟨g,o+4,none⟩=some pn∧w.cell? ⟨g,o+5,none⟩=some (.slice p v.items.length cap)∧F64 v.flt∧v.str.length≤140737488355328∧Strs w v.names pn∧v.items.length≤140737488355328 ∧
  (∀ i,i<v.items.length→∃ g' o',p=some ⟨g',o',none⟩∧g'<w.heap.size∧PtrTo w d (v.items.getD i noVT) g' (o'+i*6)):=by
 obtain⟨hg,cs,⟨pn,pi,rfl,_,_,h4,h5,h6,h7,h8⟩,hc⟩:=h;have x0:=hc 0 (by omega);have x1:=hc 1 (by omega);have x2:=hc 2 (by omega);have x3:=hc 3 (by omega);have x4:=hc 4 (by omega);have x5:=hc 5 (by omega);rcases h8 with ⟨h8,p,c,rfl⟩|⟨g',off,cap,rfl,hg',hi⟩
 ·refine⟨pn,p,c,hg,x0,x1,x2,x3,x4,by rw[h8];exact x5,h4,h5,h6,h7,fun i hi=>?_⟩;rw[h8]at hi;simp at hi
 ·refine⟨pn,_,cap,hg,x0,x1,x2,x3,x4,x5,h4,h5,h6,h7,fun i h=>?_⟩;obtain⟨ds,h9,h10⟩:=hi i h;exact⟨g',off,rfl,hg',hg',ds,h9,h10⟩
theorem Strs.lenOf {w:World} {l:List (List UInt8)} {v:Value} (h:Strs w l v):∃ p cap,v=.slice p l.length cap:=by
 rcases h.2.2 with ⟨rfl,p,c,hp⟩|⟨g,off,cap,hp,_⟩
 ·exact⟨p,c,hp⟩
 ·exact⟨_,cap,hp⟩
theorem counted_any:∀ (d:Nat) (v:VT) (g o:Nat) (n:Nat) (w:World),PtrTo w d v g o→n<500 →
  Calls Tryz.prog 131 #[.pointer (some ⟨g,o,none⟩),.int .i64 (n:Int)] w fun e w'=>e=.returned (.int .i64 (countV v n:Nat))∧w=w'
 | 0,_,_,_,_,_,h,_=>by obtain⟨_,_,h,_⟩:=h;exact h.elim
 | d+1,v,g,o,n,w,h,hn=>by
  have ih:=zh (counted_any d);have hcv:countV v n=countL v.items (n+1):=by cases v;rw[countV];rfl
  have HCV:=zh hcv;clear hcv;obtain⟨pn,p,cap,hg,x0,x1,x2,x3,x4,x5,h4,h5,h6,h7,h9⟩:=h.open
  have H9:=zh h9;clear h9 h x0 x1 x2 x3 x4 h4 h5 h6;generalize v.items=its at *;generalize hN:its.length=N at *;have HN:=zh hN;clear hN;go_in;go_wp2_with fail
  go_loop [1,13] (fun mv iv=>∃ i m:Nat,i≤N∧m≤500∧mv=.int .i64 m∧iv=.int .i64 i∧Hid (countV v n=countL (its.drop i) m)) (fun _ iv=>N - (intOf iv).toNat)
  case atStart=>exact⟨0,n+1,by omega,by omega,by go_num,rfl,by show _=_;rw[List.drop_zero,HCV.out]⟩
  case round =>
   obtain⟨i,m,hi,hm,rfl,rfl,hcn⟩:=hrel;by_cases hlt:i<N
   ·have t0:decide ((i:Int)<(N:Int))=true:=by simp;omega
    by_cases h5:m<500
    ·have t1:decide ((500:Int)≤(m:Int))=false:=by simp;omega
     obtain⟨g',o',rfl,hg',hv⟩:=H9.out i hlt;have HC:=zh (ih.out _ _ _ m w hv h5);have hdn:=countL_drop (l:=its) (i:=i) (m:=m) (by rw[HN.out];exact hlt) h5;have HD:=zh hdn;have hle:=countV_le (its.getD i noVT) m h5;generalize its.getD i noVT=k at *;generalize countV k m=m2 at *;have b1:(0:Int)≤(i:Int):=by omega
     have b2:(i:Int)<(N:Int):=by omega
     clear hdn hv;go_wp2_with fail
     refine(HC.out).mono ?_;rintro e w5 ⟨rfl,rfl⟩;go_wp2_with fail
     go_round
     case rel=>exact⟨i+1,m2,by omega,hle.1,rfl,by go_num,by show _=_;rw[hcn.out,HD.out]⟩
     case measure=>simp[intOf];omega
    ·have t1:decide ((500:Int)≤(m:Int))=true:=by simp;omega
     have HF:=zh (countL_stop (l:=its.drop i) (m:=m) (by omega));go_wp2_with fail
     go_ret;exact⟨ret_val (by rw[hcn.out,HF.out];rfl),rfl⟩
   ·have t0:decide ((i:Int)<(N:Int))=false:=by simp;omega
    have HF:=zh (countL_end (l:=its) (i:=i) (m:=m) (by rw[HN.out];omega));go_wp2_with fail
    go_ret;exact⟨ret_val (by rw[hcn.out,HF.out];rfl),rfl⟩
end
section
open Go.RowKit
theorem ValAt.box {w:World} {d:Nat} {v:VT} {cs:Array Value} (h:ValAt w d v cs):PtrTo (w.alloc (.cells cs 28)) d v w.heap.size 0:=by
 refine⟨by simp,cs,h.kept ((Below.refl _ _).alloc (Nat.le_refl _) _),fun j hj=>?_⟩;rw[Nat.zero_add,zc (heap_alloc_new w _)]
theorem ValAt.six {w:World} {d:Nat} {v:VT} {cs:Array Value} (h:ValAt w d v cs):∃ pn p cap,cs=#[.int .i64 v.kind,.int .i64 v.num,.float .f64 v.flt,.string ⟨v.str.toArray⟩,pn,.slice p v.items.length cap]:=by
 cases d with
 | zero=>exact h.elim
 | succ d =>
  obtain⟨pn,pi,rfl,_,_,_,_,_,_,h8⟩:=h;rcases h8 with ⟨h8,p,c,rfl⟩|⟨g,off,cap,rfl,_⟩
  ·exact⟨pn,p,c,by rw[h8];rfl⟩
  ·exact⟨pn,_,cap,rfl⟩
theorem vparts_any (d:Nat) (v:VT) (cs:Array Value) (w:World) (h:ValAt w d v cs):Calls Tryz.prog 97 #[.agg cs] w (Gives (.int .i64 (countV v 0:Nat)) w):=by
 have hb:=h.box;have HC:=zh (counted_any d v _ 0 0 _ hb (by omega));have hB:Below w.heap.size w (w.alloc (.cells cs 28)):=(Below.refl _ _).alloc (Nat.le_refl _) _;clear hb;go_in;go_wp2_with fail
 refine(HC.out).mono ?_;rintro e w2 ⟨rfl,rfl⟩;go_wp2_with fail
 go_ret;exact⟨rfl,hB⟩
/-- nothing but the fields that are named -/
def bareV (v:VT) (n f s r:Bool):Bool:=(n||decide (v.num=0))&&((f||zeroB v.flt)&&((s||v.str.isEmpty)&&(r||(v.names.isEmpty&&v.items.isEmpty))))
theorem ord_zero {f:Nat} (hf:F64 f):(ordB f 0==0)=zeroB f:=by
 unfold zeroB;rw[Bool.eq_iff_iff,beq_iff_eq,decide_eq_true_eq];have hk0:keyB 0=0:=by decide
 unfold ordB;rw[hk0];have hc:canon f=0↔keyB f=0:=by
  unfold canon keyB;by_cases hn:Fl.isNaN f=true
  ·rw[if_pos hn,if_pos hn];constructor
   ·intro h;exact absurd h (by decide)
   ·intro h;omega
  ·rw[if_neg hn,if_neg hn];have h1:=ng_cases hf;rcases h1 with ⟨h1,h2⟩|⟨h1,h2⟩
   ·rw[h1];simp only[if_true];have:=rg_lt f;omega
   ·rw[h1];simp only[Bool.false_eq_true,if_false];omega
 rw[hc];constructor
 ·intro h;split at h
  ·omega
  ·split at h<;>omega
 ·intro h;rw[h];simp
theorem bare_n (d:Nat) (v:VT) (g o:Nat) (w:World) (h:PtrTo w (d+1) v g o) :
  Calls Tryz.prog 132 #[.pointer (some ⟨g,o,none⟩),.bool true,.bool false,.bool false,.bool false] w fun e w'=>e=.returned (.bool (bareV v true false false false))∧w=w':=by
 obtain⟨pn,p,cap,hg,x0,x1,x2,x3,x4,x5,h4,h5,h6,h7,h9⟩:=h.open
 have HO:=zh (fun w=>order_any v.flt 0 h4 (by unfold F64;omega) w);have hz:=ord_zero h4;obtain⟨pp,pc,rfl⟩:=h6.lenOf;have HB:=bareV.eq_def v true false false false;clear h9 h5 h6 h7 h x0 hg h4;have hnm:v.names.isEmpty=decide (v.names.length=0):=by cases v.names<;>simp
 have hit:v.items.isEmpty=decide (v.items.length=0):=by cases v.items<;>simp
 have hst:v.str.isEmpty=(⟨v.str.toArray⟩:ByteArray).toList.isEmpty:=by rw[ByteArray.toList_eq]
 rw[hnm,hit,hst,←hz]at HB;generalize v.names.length=N at *;generalize v.items.length=M at *;generalize (⟨v.str.toArray⟩:ByteArray)=S at *;generalize v.num=K at *;generalize ordB v.flt 0=Z at *;clear hnm hit hst hz;by_cases c2:Z=0
 ·have t2:(Z==0)=true:=by rw[c2];rfl
  rw[t2]at HB;clear c2;by_cases c3:S.toList=[]
  ·have t3:S.toList.isEmpty=true:=by rw[c3];rfl
   rw[t3]at HB;by_cases c4:N=0
   ·have t4:((N:Int)==0)=true:=by rw[c4];rfl
    rw[show decide (N=0)=true from decide_eq_true c4]at HB;by_cases c5:M=0
    ·have t5:((M:Int)==0)=true:=by rw[c5];rfl
     rw[show decide (M=0)=true from decide_eq_true c5]at HB;have HB:=zh HB;clear c4 c5;go_in;go_wp2_with (go_at_call 144;refine(HO.out _).mono ?_;rintro e w' ⟨rfl,rfl⟩)
     go_ret;exact⟨ret_val (by rw[HB.out];rfl),rfl⟩
    ·have t5:((M:Int)==0)=false:=by rw[beq_eq_false_iff_ne];omega
     rw[show decide (M=0)=false from decide_eq_false c5]at HB;have HB:=zh HB;clear c4;go_in;go_wp2_with (go_at_call 144;refine(HO.out _).mono ?_;rintro e w' ⟨rfl,rfl⟩)
     go_ret;exact⟨ret_val (by rw[HB.out];rfl),rfl⟩
   ·have t4:((N:Int)==0)=false:=by rw[beq_eq_false_iff_ne];omega
    rw[show decide (N=0)=false from decide_eq_false c4]at HB;have HB:=zh HB;go_in;go_wp2_with (go_at_call 144;refine(HO.out _).mono ?_;rintro e w' ⟨rfl,rfl⟩)
    go_ret;exact⟨ret_val (by rw[HB.out];rfl),rfl⟩
  ·have t3:S.toList.isEmpty=false:=by cases hh:S.toList with|nil=>exact absurd hh c3|cons a b=>rfl
   rw[t3]at HB;have HB:=zh HB;go_in;go_wp2_with (go_at_call 144;refine(HO.out _).mono ?_;rintro e w' ⟨rfl,rfl⟩)
   go_ret;exact⟨ret_val (by rw[HB.out];rfl),rfl⟩
 ·have t2:(Z==0)=false:=beq_eq_false_iff_ne.2 c2;rw[t2]at HB;clear c2;have HB:=zh HB;go_in;go_wp2_with (go_at_call 144;refine(HO.out _).mono ?_;rintro e w' ⟨rfl,rfl⟩)
  go_ret;exact⟨ret_val (by rw[HB.out];rfl),rfl⟩
theorem bare_f (d:Nat) (v:VT) (g o:Nat) (w:World) (h:PtrTo w (d+1) v g o) :
  Calls Tryz.prog 132 #[.pointer (some ⟨g,o,none⟩),.bool false,.bool true,.bool false,.bool false] w fun e w'=>e=.returned (.bool (bareV v false true false false))∧w=w':=by
 obtain⟨pn,p,cap,hg,x0,x1,x2,x3,x4,x5,h4,h5,h6,h7,h9⟩:=h.open
 have HO:=zh (fun w=>order_any v.flt 0 h4 (by unfold F64;omega) w);have hz:=ord_zero h4;obtain⟨pp,pc,rfl⟩:=h6.lenOf;have HB:=bareV.eq_def v false true false false;clear h9 h5 h6 h7 h x0 hg h4;have hnm:v.names.isEmpty=decide (v.names.length=0):=by cases v.names<;>simp
 have hit:v.items.isEmpty=decide (v.items.length=0):=by cases v.items<;>simp
 have hst:v.str.isEmpty=(⟨v.str.toArray⟩:ByteArray).toList.isEmpty:=by rw[ByteArray.toList_eq]
 rw[hnm,hit,hst,←hz]at HB;generalize v.names.length=N at *;generalize v.items.length=M at *;generalize (⟨v.str.toArray⟩:ByteArray)=S at *;generalize v.num=K at *;generalize ordB v.flt 0=Z at *;clear hnm hit hst hz;by_cases c1:K=0
 ·have t1:(K==0)=true:=by rw[c1];rfl
  rw[show decide (K=0)=true from decide_eq_true c1]at HB;clear c1;by_cases c3:S.toList=[]
  ·have t3:S.toList.isEmpty=true:=by rw[c3];rfl
   rw[t3]at HB;by_cases c4:N=0
   ·have t4:((N:Int)==0)=true:=by rw[c4];rfl
    rw[show decide (N=0)=true from decide_eq_true c4]at HB;by_cases c5:M=0
    ·have t5:((M:Int)==0)=true:=by rw[c5];rfl
     rw[show decide (M=0)=true from decide_eq_true c5]at HB;have HB:=zh HB;clear c4 c5;go_in;go_wp2_with (go_at_call 144;refine(HO.out _).mono ?_;rintro e w' ⟨rfl,rfl⟩)
     go_ret;exact⟨ret_val (by rw[HB.out];rfl),rfl⟩
    ·have t5:((M:Int)==0)=false:=by rw[beq_eq_false_iff_ne];omega
     rw[show decide (M=0)=false from decide_eq_false c5]at HB;have HB:=zh HB;clear c4;go_in;go_wp2_with (go_at_call 144;refine(HO.out _).mono ?_;rintro e w' ⟨rfl,rfl⟩)
     go_ret;exact⟨ret_val (by rw[HB.out];rfl),rfl⟩
   ·have t4:((N:Int)==0)=false:=by rw[beq_eq_false_iff_ne];omega
    rw[show decide (N=0)=false from decide_eq_false c4]at HB;have HB:=zh HB;go_in;go_wp2_with (go_at_call 144;refine(HO.out _).mono ?_;rintro e w' ⟨rfl,rfl⟩)
    go_ret;exact⟨ret_val (by rw[HB.out];rfl),rfl⟩
  ·have t3:S.toList.isEmpty=false:=by cases hh:S.toList with|nil=>exact absurd hh c3|cons a b=>rfl
   rw[t3]at HB;have HB:=zh HB;go_in;go_wp2_with (go_at_call 144;refine(HO.out _).mono ?_;rintro e w' ⟨rfl,rfl⟩)
   go_ret;exact⟨ret_val (by rw[HB.out];rfl),rfl⟩
 ·have t1:(K==0)=false:=beq_eq_false_iff_ne.2 c1;rw[show decide (K=0)=false from decide_eq_false c1]at HB;clear c1;have HB:=zh HB;go_in;go_wp2_with (go_at_call 144;refine(HO.out _).mono ?_;rintro e w' ⟨rfl,rfl⟩)
  go_ret;exact⟨ret_val (by rw[HB.out];rfl),rfl⟩
theorem bare_s (d:Nat) (v:VT) (g o:Nat) (w:World) (h:PtrTo w (d+1) v g o) :
  Calls Tryz.prog 132 #[.pointer (some ⟨g,o,none⟩),.bool false,.bool false,.bool true,.bool false] w fun e w'=>e=.returned (.bool (bareV v false false true false))∧w=w':=by
 obtain⟨pn,p,cap,hg,x0,x1,x2,x3,x4,x5,h4,h5,h6,h7,h9⟩:=h.open
 have HO:=zh (fun w=>order_any v.flt 0 h4 (by unfold F64;omega) w);have hz:=ord_zero h4;obtain⟨pp,pc,rfl⟩:=h6.lenOf;have HB:=bareV.eq_def v false false true false;clear h9 h5 h6 h7 h x0 hg h4;have hnm:v.names.isEmpty=decide (v.names.length=0):=by cases v.names<;>simp
 have hit:v.items.isEmpty=decide (v.items.length=0):=by cases v.items<;>simp
 have hst:v.str.isEmpty=(⟨v.str.toArray⟩:ByteArray).toList.isEmpty:=by rw[ByteArray.toList_eq]
 rw[hnm,hit,hst,←hz]at HB;generalize v.names.length=N at *;generalize v.items.length=M at *;generalize (⟨v.str.toArray⟩:ByteArray)=S at *;generalize v.num=K at *;generalize ordB v.flt 0=Z at *;clear hnm hit hst hz;by_cases c1:K=0
 ·have t1:(K==0)=true:=by rw[c1];rfl
  rw[show decide (K=0)=true from decide_eq_true c1]at HB;clear c1;by_cases c2:Z=0
  ·have t2:(Z==0)=true:=by rw[c2];rfl
   rw[t2]at HB;clear c2;by_cases c4:N=0
   ·have t4:((N:Int)==0)=true:=by rw[c4];rfl
    rw[show decide (N=0)=true from decide_eq_true c4]at HB;by_cases c5:M=0
    ·have t5:((M:Int)==0)=true:=by rw[c5];rfl
     rw[show decide (M=0)=true from decide_eq_true c5]at HB;have HB:=zh HB;clear c4 c5;go_in;go_wp2_with (go_at_call 144;refine(HO.out _).mono ?_;rintro e w' ⟨rfl,rfl⟩)
     go_ret;exact⟨ret_val (by rw[HB.out];rfl),rfl⟩
    ·have t5:((M:Int)==0)=false:=by rw[beq_eq_false_iff_ne];omega
     rw[show decide (M=0)=false from decide_eq_false c5]at HB;have HB:=zh HB;clear c4;go_in;go_wp2_with (go_at_call 144;refine(HO.out _).mono ?_;rintro e w' ⟨rfl,rfl⟩)
     go_ret;exact⟨ret_val (by rw[HB.out];rfl),rfl⟩
   ·have t4:((N:Int)==0)=false:=by rw[beq_eq_false_iff_ne];omega
    rw[show decide (N=0)=false from decide_eq_false c4]at HB;have HB:=zh HB;go_in;go_wp2_with (go_at_call 144;refine(HO.out _).mono ?_;rintro e w' ⟨rfl,rfl⟩)
    go_ret;exact⟨ret_val (by rw[HB.out];rfl),rfl⟩
  ·have t2:(Z==0)=false:=beq_eq_false_iff_ne.2 c2;rw[t2]at HB;clear c2;have HB:=zh HB;go_in;go_wp2_with (go_at_call 144;refine(HO.out _).mono ?_;rintro e w' ⟨rfl,rfl⟩)
   go_ret;exact⟨ret_val (by rw[HB.out];rfl),rfl⟩
 ·have t1:(K==0)=false:=beq_eq_false_iff_ne.2 c1;rw[show decide (K=0)=false from decide_eq_false c1]at HB;clear c1;have HB:=zh HB;go_in;go_wp2_with (go_at_call 144;refine(HO.out _).mono ?_;rintro e w' ⟨rfl,rfl⟩)
  go_ret;exact⟨ret_val (by rw[HB.out];rfl),rfl⟩
theorem bare_r (d:Nat) (v:VT) (g o:Nat) (w:World) (h:PtrTo w (d+1) v g o) :
  Calls Tryz.prog 132 #[.pointer (some ⟨g,o,none⟩),.bool false,.bool false,.bool false,.bool true] w fun e w'=>e=.returned (.bool (bareV v false false false true))∧w=w':=by
 obtain⟨pn,p,cap,hg,x0,x1,x2,x3,x4,x5,h4,h5,h6,h7,h9⟩:=h.open
 have HO:=zh (fun w=>order_any v.flt 0 h4 (by unfold F64;omega) w);have hz:=ord_zero h4;obtain⟨pp,pc,rfl⟩:=h6.lenOf;have HB:=bareV.eq_def v false false false true;clear h9 h5 h6 h7 h x0 hg h4;have hnm:v.names.isEmpty=decide (v.names.length=0):=by cases v.names<;>simp
 have hit:v.items.isEmpty=decide (v.items.length=0):=by cases v.items<;>simp
 have hst:v.str.isEmpty=(⟨v.str.toArray⟩:ByteArray).toList.isEmpty:=by rw[ByteArray.toList_eq]
 rw[hnm,hit,hst,←hz]at HB;generalize v.names.length=N at *;generalize v.items.length=M at *;generalize (⟨v.str.toArray⟩:ByteArray)=S at *;generalize v.num=K at *;generalize ordB v.flt 0=Z at *;clear hnm hit hst hz;by_cases c1:K=0
 ·have t1:(K==0)=true:=by rw[c1];rfl
  rw[show decide (K=0)=true from decide_eq_true c1]at HB;clear c1;by_cases c2:Z=0
  ·have t2:(Z==0)=true:=by rw[c2];rfl
   rw[t2]at HB;clear c2;by_cases c3:S.toList=[]
   ·have t3:S.toList.isEmpty=true:=by rw[c3];rfl
    rw[t3]at HB;have HB:=zh HB;go_in;go_wp2_with (go_at_call 144;refine(HO.out _).mono ?_;rintro e w' ⟨rfl,rfl⟩)
    go_ret;exact⟨ret_val (by rw[HB.out];rfl),rfl⟩
   ·have t3:S.toList.isEmpty=false:=by cases hh:S.toList with|nil=>exact absurd hh c3|cons a b=>rfl
    rw[t3]at HB;have HB:=zh HB;go_in;go_wp2_with (go_at_call 144;refine(HO.out _).mono ?_;rintro e w' ⟨rfl,rfl⟩)
    go_ret;exact⟨ret_val (by rw[HB.out];rfl),rfl⟩
  ·have t2:(Z==0)=false:=beq_eq_false_iff_ne.2 c2;rw[t2]at HB;clear c2;have HB:=zh HB;go_in;go_wp2_with (go_at_call 144;refine(HO.out _).mono ?_;rintro e w' ⟨rfl,rfl⟩)
   go_ret;exact⟨ret_val (by rw[HB.out];rfl),rfl⟩
 ·have t1:(K==0)=false:=beq_eq_false_iff_ne.2 c1;rw[show decide (K=0)=false from decide_eq_false c1]at HB;clear c1;have HB:=zh HB;go_in;go_wp2_with (go_at_call 144;refine(HO.out _).mono ?_;rintro e w' ⟨rfl,rfl⟩)
  go_ret;exact⟨ret_val (by rw[HB.out];rfl),rfl⟩
end
end Go.Proofs.YtepaaochgljcdaaGreatDoor
