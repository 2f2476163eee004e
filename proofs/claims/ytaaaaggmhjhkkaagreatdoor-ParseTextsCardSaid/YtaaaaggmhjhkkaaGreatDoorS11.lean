/-
  Y1, Y2, Y3, Y4 in one text.
-/
import Derived.Lib.ConvBytes
import Derived.Test.YtaaaaggmhjhkkaaGreatDoorS05
import Derived.Test.YtaaaaggmhjhkkaaGreatDoorCl
set_option maxRecDepth 100000
set_option maxHeartbeats 8000000
namespace Go.Proofs.YtaaaaggmhjhkkaaGreatDoor
section
open Go.RowKit
theorem below_bytes (w:World) (e:TypeId) (s:ByteArray):Below w.heap.size w (Lib.bytesWorld w e s) :=
 Lib.below_freeze (((Below.refl _ _).drew).alloc (Nat.le_refl _) _) (p:=⟨w.heap.size,_,none⟩) (Nat.le_refl _) 1
theorem vname_any (s:ByteArray) (w:World):Calls Tryz.prog 108 #[.string s] w (Gives (.bool (nmB s.data.toList)) w):=by
 have hl:s.data.toList.length=s.size:=by simp
 have HL:=zh hl;clear hl;by_cases h1:s.size<1
 ·have hs0:s.toList=[]:=by rw[ByteArray.toList_eq];exact List.length_eq_zero_iff.1 (by rw[HL.out];omega)
  have HX:=zh (nmB_short (l:=s.data.toList) (by rw[HL.out];omega));clear h1;go_in;go_wp2_with fail
  go_ret;exact⟨ret_val (by rw[HX.out];rfl),Below.refl _ _⟩
 ·have hs1:s.toList.isEmpty=false:=by
   rw[ByteArray.toList_eq];cases hd:s.data.toList with
   | nil=>have:=HL.out;rw[hd]at this;simp at this;omega
   | cons x y=>rfl
  have hs2:¬ s.toList=[]:=by intro h;rw[h]at hs1;cases hs1
  by_cases h2:30<s.size
  ·have t2:decide ((30:Int)<(s.size:Int))=true:=by simp;omega
   have HX:=zh (nmB_short (l:=s.data.toList) (by rw[HL.out];omega));go_in;go_wp2_with fail
   go_ret;exact⟨ret_val (by rw[HX.out];rfl),Below.refl _ _⟩
  ·have t2:decide ((30:Int)<(s.size:Int))=false:=by simp;omega
   have t2':¬ 30<s.size:=h2;have hcv:=fun w=>Lib.run_convert_string_bytes (P:=Tryz.prog) w 9 50 5 s Tryz.underlying9 Tryz.underlying50 Tryz.underlying5
   have hbw:=below_bytes w 5 s;have hcell:=fun j hj=>Lib.bytesWorld_cell w 5 s j hj
   have HCell:=zh hcell;have HBw:=zh hbw;clear hcell hbw;go_in;go_wp2_with fail
   generalize Lib.bytesWorld w 5 s=W0 at *;generalize grownCap w s.size 0 5=gc at *;go_loop [15] (fun kv=>∃ k:Nat,k≤s.size∧kv=.int .i64 k∧NmTo s.data.toList k) (fun kv=>s.size - (intOf kv).toNat)
   case atStart=>exact⟨0,Nat.zero_le _,rfl,NmTo.zero _⟩
   case round =>
    obtain⟨k,hk,rfl,hnm⟩:=hrel;by_cases hlt:k<s.size
    ·have t0:decide ((k:Int)<(s.size:Int))=true:=by simp;omega
     have hcl:=HCell.out k hlt;have b1:(0:Int)≤(k:Int):=by omega
     have b2:(k:Int)<(s.size:Int):=by omega
     have hg0:s.data.toList.getD k 0=s[k]'hlt:=by simp[List.getD,hlt];rfl
     have HStep:=zh (fun hn h0=>hnm.step (by rw[HL.out];exact hlt) hn h0);have HNo:=zh (fun hn=>nmB_no (l:=s.data.toList) (k:=k) (by rw[HL.out];exact hlt) hn);rw[hg0]at HStep HNo hcl;have hN0:isLet (s[k]'hlt)=false→k=0→nmB s.data.toList=false:=by
      intro h hk0;refine nmB_no0 ?_;rw[←hg0]at h;rw[hk0]at h;exact h
     have HNo0:=zh hN0;clear hnm hg0 hN0;have hLt:isLet (s[k]'hlt)=(decide ((97:Int)≤((s[k]'hlt).toNat:Int))&&decide (((s[k]'hlt).toNat:Int)≤122)):=by
      unfold isLet;rw[Bool.eq_iff_iff];simp;omega
     have hDg:isDig (s[k]'hlt)=(decide ((48:Int)≤((s[k]'hlt).toNat:Int))&&decide (((s[k]'hlt).toNat:Int)≤57)):=by
      show decide (48≤(s[k]'hlt).toNat∧(s[k]'hlt).toNat≤57)=_;rw[Bool.eq_iff_iff];simp;omega
     have hNm:isNm (s[k]'hlt)=(isLet (s[k]'hlt)||isDig (s[k]'hlt)||((s[k]'hlt).toNat:Int)==95):=by unfold isNm;rw[u8_beqV (s[k]'hlt) 95];rfl
     rw[hLt,hDg]at hNm;have HNm:=zh hNm;have HLt:=zh hLt;clear hNm hLt hDg;cases a1:decide ((97:Int)≤((s[k]'hlt).toNat:Int))<;>cases a2:decide (((s[k]'hlt).toNat:Int)≤122)
     case true.true =>
      rw[a1,a2]at HLt HNm;have HY:=zh (HStep.out (by rw[HNm.out];rfl) (.inr (by rw[HLt.out];rfl)));go_wp2_with fail
      go_round
      case rel=>exact⟨k+1,by omega,by go_num,HY.out⟩
      case measure=>simp[intOf];omega
     all_goals
      rw[a1,a2]at HLt HNm;by_cases hk0:k=0
      ·have HX:=zh (HNo0.out (by rw[HLt.out];rfl) hk0);have tk:decide ((0:Int)<(k:Int))=false:=by simp;omega
       have tkn:¬ 0<k:=by omega
       clear hk0;go_wp2_with fail
       go_ret;exact⟨ret_val (by rw[HX.out];rfl),HBw.out⟩
      ·have tk:decide ((0:Int)<(k:Int))=true:=by simp;omega
       have tkn:0<k:=by omega
       cases a3:decide ((48:Int)≤((s[k]'hlt).toNat:Int))<;>cases a4:decide (((s[k]'hlt).toNat:Int)≤57)
       case neg.true.true =>
        rw[a3,a4]at HNm;have HY:=zh (HStep.out (by rw[HNm.out];rfl) (.inl hk0));cases a5:(((s[k]'hlt).toNat:Int)==95)
        all_goals
         go_wp2_with fail
         go_round
         case rel=>exact⟨k+1,by omega,by go_num,HY.out⟩
         case measure=>simp[intOf];omega
       all_goals
        rw[a3,a4]at HNm;cases a5:(((s[k]'hlt).toNat:Int)==95)
        ·have a6:(((s[k]'hlt).toNat:Int) != 95)=true:=by rw[bne,a5];rfl
         rw[a5]at HNm;have HX:=zh (HNo.out (by rw[HNm.out];rfl));go_wp2_with fail
         go_ret;exact⟨ret_val (by rw[HX.out];rfl),HBw.out⟩
        ·have a6:(((s[k]'hlt).toNat:Int) != 95)=false:=by rw[bne,a5];rfl
         rw[a5]at HNm;have HY:=zh (HStep.out (by rw[HNm.out];rfl) (.inl hk0));go_wp2_with fail
         go_round
         case rel=>exact⟨k+1,by omega,by go_num,HY.out⟩
         case measure=>simp[intOf];omega
    ·have t0:decide ((k:Int)<(s.size:Int))=false:=by simp;omega
     have hks:k=s.size:=by omega
     have t0':¬ k<s.size:=hlt;rw[hks,←HL.out]at hnm;have HX:=zh (hnm.whole (by rw[HL.out];omega) (by rw[HL.out];omega));clear hks hnm;go_wp2_with fail
     go_ret;exact⟨ret_val (by rw[HX.out];rfl),HBw.out⟩
end
section
open Go.RowKit
theorem rising_any (l:List (List UInt8)) (v:Value) (w:World) (h:Strs w l v):Calls Tryz.prog 126 #[v] w (Gives (.bool (risesB l)) w):=by
 obtain⟨h1,h2,h3⟩:=h;have h3':∃ p cap,v=.slice p l.length cap∧∀ i,i<l.length→∃ g off,p=some ⟨g,off,none⟩∧g<w.heap.size∧∀ j,j<l.length→w.cell? ⟨g,off+j,none⟩=some (.string ⟨(l.getD j []).toArray⟩):=by
  rcases h3 with ⟨h3,p,c,hp⟩|⟨g,off,cap,hp,hg,hc⟩
  ·subst h3;exact⟨p,c,hp,fun i hi=>absurd hi (by simp)⟩
  ·exact⟨_,cap,hp,fun i hi=>⟨g,off,rfl,hg,hc⟩⟩
 obtain⟨p,cap,rfl,h4⟩:=h3';have H4:=zh h4;clear h3 h4 h2;have HNo:=zh (fun i hi hk=>rises_no (l:=l) (i:=i) hi hk);have HYes:=zh (fun h=>(rises_iff l).2 h);generalize hN:l.length=N at *;generalize hR:risesB l=R at *;have HN:=zh hN;clear hN hR;generalize hgh:w.heap.size=H at *;have HH:=zh hgh;clear hgh;go_in;go_wp2_with fail
 go_loopw [7] (fun iv wr=>∃ i:Nat,i≤N∧iv=.int .i64 i∧Below H w wr∧Hid (∀ j,j<i→okAt l j=true)) (fun iv _=>N - (intOf iv).toNat)
 case atStart=>exact⟨0,by omega,rfl,Below.refl _ _,fun j hj=>absurd hj (by omega)⟩
 case round =>
  obtain⟨i,hi,rfl,hB,hall⟩:=hrel;have hHw:H≤wr.heap.size:=by have:=hB.size;rw[HH.out]at this;exact this
  by_cases hlt:i<N
  ·have t0:decide ((i:Int)<(N:Int))=true:=by simp;omega
   obtain⟨g,off,rfl,hg,hc⟩:=H4.out i hlt;have x1:wr.cell? ⟨g,off+i,none⟩=some (.string ⟨(l.getD i []).toArray⟩):=(hB.cell (p:=⟨g,off+i,none⟩) hg).trans (hc i hlt);have hy:∀ wx,Below wr.heap.size wr wx→wx.cell? ⟨g,off+(i - 1),none⟩=some (.string ⟨(l.getD (i - 1) []).toArray⟩):=fun wx hx=>((hB.trans (hx.mono hHw)).cell (p:=⟨g,off+(i - 1),none⟩) hg).trans (hc (i - 1) (by omega))
   have hnm:=fun w=>vname_any ⟨(l.getD i []).toArray⟩ w
   rw[show(⟨(l.getD i []).toArray⟩:ByteArray).data.toList=l.getD i [] from rfl]at hnm;have HNm:=zh hnm;have HY2:=zh hy;have HOk:=zh (okAt.eq_def l i);have b1:(0:Int)≤(i:Int):=by omega
   have b2:(i:Int)<(N:Int):=by omega
   clear hc hnm hy;have HAll:=zh (fun(h:okAt l i=true) j (hj:j<i+1)=>(show okAt l j=true from by
    rcases Nat.lt_or_ge j i with g|g
    ·exact hall.out j g
    ·rw[show j=i by omega];exact h))
   have HNi:=zh (HNo.out i hlt);generalize hA:l.getD i []=A at *;generalize hB':l.getD (i - 1) []=B at *;clear hA hB';cases hb:nmB A
   ·rw[hb]at HNm HOk;have HX:=zh (HNi.out (by rw[HOk.out];rfl));go_wp2_with fail
    refine(HNm.out _).mono ?_;rintro e w5 ⟨rfl,hb5⟩;go_wp2_with fail
    go_ret;exact⟨ret_val (by rw[HX.out];rfl),by rw[HH.out];exact hB.trans (hb5.mono hHw)⟩
   ·rw[hb]at HNm HOk;by_cases hi0:i=0
    ·have t1:decide ((0:Int)<(i:Int))=false:=by simp;omega
     have t1':¬ 0<i:=by omega
     have t1n:decide (0<i)=false:=by simp;omega
     have HY:=zh (HAll.out (by rw[HOk.out,decide_eq_true hi0];rfl));clear hi0;go_wp2_with fail
     refine(HNm.out _).mono ?_;rintro e w5 ⟨rfl,hb5⟩;go_wp2_with fail
     go_roundw
     case rel=>exact⟨i+1,by omega,by go_num,hB.trans (hb5.mono hHw),HY.out⟩
     case measure=>simp[intOf];omega
    ·have t1:decide ((0:Int)<(i:Int))=true:=by simp;omega
     have t1p:0<i:=by omega
     have t1n:decide (0<i)=true:=by simp;omega
     have w1:IntKind.i64.wrap ((i:Int) - 1)=((i - 1:Nat):Int):=by rw[IntKind.wrap_i64];omega
     have w2:(0:Int)≤((i - 1:Nat):Int):=by omega
     have w3:((i - 1:Nat):Int)<(N:Int):=by omega
     have e1:(i:Int) - 1=((i - 1:Nat):Int):=by omega
     have HI:=zh (decide_eq_false hi0);clear hi0;cases hl:Op.bytesLess B A
     ·have HX:=zh (HNi.out (by rw[HOk.out,HI.out,hl];rfl));go_wp2_with fail
      refine(HNm.out _).mono ?_;rintro e w5 ⟨rfl,hb5⟩;have y1:=HY2.out _ hb5;go_wp2_with fail
      go_ret;exact⟨ret_val (by rw[HX.out];rfl),by rw[HH.out];exact hB.trans (hb5.mono hHw)⟩
     ·have HY:=zh (HAll.out (by rw[HOk.out,HI.out,hl];rfl));go_wp2_with fail
      refine(HNm.out _).mono ?_;rintro e w5 ⟨rfl,hb5⟩;have y1:=HY2.out _ hb5;go_wp2_with fail
      go_roundw
      case rel=>exact⟨i+1,by omega,by go_num,hB.trans (hb5.mono hHw),HY.out⟩
      case measure=>simp[intOf];omega
  ·have t0:decide ((i:Int)<(N:Int))=false:=by simp;omega
   have hr:=HYes.out (fun j hj=>hall.out j (by omega));have HR:=zh hr;clear hr;go_wp2_with fail
   go_ret;exact⟨ret_val (by rw[HR.out];rfl),by rw[HH.out];exact hB⟩
end
section
open Go.RowKit
/-- a value behind a pointer -/
def PtrTo (w:World) (d:Nat) (v:VT) (g o:Nat):Prop:=g<w.heap.size∧∃ cs,ValAt w d v cs∧∀ j,j<6→w.cell? ⟨g,o+j,none⟩=cs[j]?
theorem PtrTo.kept {w w':World} {d:Nat} {v:VT} {g o:Nat} (h:PtrTo w d v g o) (hb:Below w.heap.size w w'):PtrTo w' d v g o:=by
 obtain⟨hg,cs,h1,h2⟩:=h;exact⟨Nat.lt_of_lt_of_le hg hb.size,cs,h1.kept hb,fun j hj=>(hb.cell (p:=⟨g,o+j,none⟩) hg).trans (h2 j hj)⟩
/-- its six cells, and what its items are -/
theorem PtrTo.open {w:World} {d:Nat} {v:VT} {g o:Nat} (h:PtrTo w (d+1) v g o):∃ pn p cap,g<w.heap.size∧w.cell? ⟨g,o,none⟩=some (.int .i64 v.kind)∧w.cell? ⟨g,o+1,none⟩=some (.int .i64 v.num)∧w.cell? ⟨g,o+2,none⟩=some (.float .f64 v.flt) ∧
  w.cell? ⟨g,o+3,none⟩=some (.string ⟨v.str.toArray⟩)∧w.cell? ⟨g,o+4,none⟩=some pn∧w.cell? ⟨g,o+5,none⟩=some (.slice p v.items.length cap)∧F64 v.flt∧v.str.length≤140737488355328∧Strs w v.names pn∧v.items.length≤140737488355328 ∧
  (∀ i,i<v.items.length→∃ g' o',p=some ⟨g',o',none⟩∧g'<w.heap.size∧PtrTo w d (v.items.getD i noVT) g' (o'+i*6)):=by
 obtain⟨hg,cs,⟨pn,pi,rfl,_,_,h4,h5,h6,h7,h8⟩,hc⟩:=h;have x0:=hc 0 (by omega);have x1:=hc 1 (by omega);have x2:=hc 2 (by omega);have x3:=hc 3 (by omega);have x4:=hc 4 (by omega);have x5:=hc 5 (by omega);rcases h8 with ⟨h8,p,c,rfl⟩|⟨g',off,cap,rfl,hg',hi⟩
 ·refine⟨pn,p,c,hg,x0,x1,x2,x3,x4,by rw[h8];exact x5,h4,h5,h6,h7,fun i hi=>?_⟩;rw[h8]at hi;simp at hi
 ·refine⟨pn,_,cap,hg,x0,x1,x2,x3,x4,x5,h4,h5,h6,h7,fun i h=>?_⟩;obtain⟨ds,h9,h10⟩:=hi i h;exact⟨g',off,rfl,hg',hg',ds,h9,h10⟩
theorem Strs.lenOf {w:World} {l:List (List UInt8)} {v:Value} (h:Strs w l v):∃ p cap,v=.slice p l.length cap:=by
 rcases h.2.2 with ⟨rfl,p,c,hp⟩|⟨g,off,cap,hp,_⟩
 ·exact⟨p,c,hp⟩
 ·exact⟨_,cap,hp⟩
theorem counted_any:∀ (d:Nat) (v:VT) (g o:Nat) (n:Nat) (w:World),PtrTo w d v g o→n<500 →
  Calls Tryz.prog 124 #[.pointer (some ⟨g,o,none⟩),.int .i64 (n:Int)] w fun e w'=>e=.returned (.int .i64 (countV v n:Nat))∧w=w'
 | 0,_,_,_,_,_,h,_=>by obtain⟨_,_,h,_⟩:=h;exact h.elim
 | d+1,v,g,o,n,w,h,hn=>by
  have ih:=zh (counted_any d);have hcv:countV v n=countL v.items (n+1):=by cases v;rw[countV];rfl
  have HCV:=zh hcv;clear hcv;obtain⟨pn,p,cap,hg,x0,x1,x2,x3,x4,x5,h4,h5,h6,h7,h9⟩:=h.open
  have H9:=zh h9;clear h9 h x0 x1 x2 x3 x4 h4 h5 h6;generalize v.items=its at *;generalize hN:its.length=N at *;have HN:=zh hN;clear hN;go_in;go_wp2_with fail
  go_loop [1,13] (fun mv iv=>∃ i m:Nat,i≤N∧m≤500∧mv=.int .i64 m∧iv=.int .i64 i∧Hid (countV v n=countL (its.drop i) m)) (fun _ iv=>N - (intOf iv).toNat)
  case atStart=>exact⟨0,n+1,by omega,by omega,by go_num,rfl,by show _=_;rw[List.drop_zero,HCV.out]⟩
  case round =>
   obtain⟨i,m,hi,hm,rfl,rfl,hcn⟩:=hrel;by_cases hlt:i<N
   ·have t0:decide ((i:Int)<(N:Int))=true:=by simp;omega
    by_cases h5:m<500
    ·have t1:decide ((500:Int)≤(m:Int))=false:=by simp;omega
     obtain⟨g',o',rfl,hg',hv⟩:=H9.out i hlt;have HC:=zh (ih.out _ _ _ m w hv h5);have hdn:=countL_drop (l:=its) (i:=i) (m:=m) (by rw[HN.out];exact hlt) h5;have HD:=zh hdn;have hle:=countV_le (its.getD i noVT) m h5;generalize its.getD i noVT=k at *;generalize countV k m=m2 at *;have b1:(0:Int)≤(i:Int):=by omega
     have b2:(i:Int)<(N:Int):=by omega
     clear hdn hv;go_wp2_with fail
     refine(HC.out).mono ?_;rintro e w5 ⟨rfl,rfl⟩;go_wp2_with fail
     go_round
     case rel=>exact⟨i+1,m2,by omega,hle.1,rfl,by go_num,by show _=_;rw[hcn.out,HD.out]⟩
     case measure=>simp[intOf];omega
    ·have t1:decide ((500:Int)≤(m:Int))=true:=by simp;omega
     have HF:=zh (countL_stop (l:=its.drop i) (m:=m) (by omega));go_wp2_with fail
     go_ret;exact⟨ret_val (by rw[hcn.out,HF.out];rfl),rfl⟩
   ·have t0:decide ((i:Int)<(N:Int))=false:=by simp;omega
    have HF:=zh (countL_end (l:=its) (i:=i) (m:=m) (by rw[HN.out];omega));go_wp2_with fail
    go_ret;exact⟨ret_val (by rw[hcn.out,HF.out];rfl),rfl⟩
end
section
open Go.RowKit
theorem ValAt.box {w:World} {d:Nat} {v:VT} {cs:Array Value} (h:ValAt w d v cs):PtrTo (w.alloc (.cells cs 26)) d v w.heap.size 0:=by
 refine⟨by simp,cs,h.kept ((Below.refl _ _).alloc (Nat.le_refl _) _),fun j hj=>?_⟩;rw[Nat.zero_add,zc (heap_alloc_new w _)]
theorem ValAt.six {w:World} {d:Nat} {v:VT} {cs:Array Value} (h:ValAt w d v cs):∃ pn p cap,cs=#[.int .i64 v.kind,.int .i64 v.num,.float .f64 v.flt,.string ⟨v.str.toArray⟩,pn,.slice p v.items.length cap]:=by
 cases d with
 | zero=>exact h.elim
 | succ d =>
  obtain⟨pn,pi,rfl,_,_,_,_,_,_,h8⟩:=h;rcases h8 with ⟨h8,p,c,rfl⟩|⟨g,off,cap,rfl,_⟩
  ·exact⟨pn,p,c,by rw[h8];rfl⟩
  ·exact⟨pn,_,cap,rfl⟩
theorem vparts_any (d:Nat) (v:VT) (cs:Array Value) (w:World) (h:ValAt w d v cs):Calls Tryz.prog 101 #[.agg cs] w (Gives (.int .i64 (countV v 0:Nat)) w):=by
 have hb:=h.box;have HC:=zh (counted_any d v _ 0 0 _ hb (by omega));have hB:Below w.heap.size w (w.alloc (.cells cs 26)):=(Below.refl _ _).alloc (Nat.le_refl _) _;clear hb;go_in;go_wp2_with fail
 refine(HC.out).mono ?_;rintro e w2 ⟨rfl,rfl⟩;go_wp2_with fail
 go_ret;exact⟨rfl,hB⟩
/-- nothing but the fields that are named -/
def bareV (v:VT) (n f s r:Bool):Bool:=(n||decide (v.num=0))&&((f||zeroB v.flt)&&((s||v.str.isEmpty)&&(r||(v.names.isEmpty&&v.items.isEmpty))))
theorem ord_zero {f:Nat} (hf:F64 f):(ordB f 0==0)=zeroB f:=by
 unfold zeroB;rw[Bool.eq_iff_iff,beq_iff_eq,decide_eq_true_eq];have hk0:keyB 0=0:=by decide
 unfold ordB;rw[hk0];have hc:canon f=0↔keyB f=0:=by
  unfold canon keyB;by_cases hn:Fl.isNaN f=true
  ·rw[if_pos hn,if_pos hn];constructor
   ·intro h;exact absurd h (by decide)
   ·intro h;omega
  ·rw[if_neg hn,if_neg hn];have h1:=ng_cases hf;rcases h1 with ⟨h1,h2⟩|⟨h1,h2⟩
   ·rw[h1];simp only[if_true];have:=rg_lt f;omega
   ·rw[h1];simp only[Bool.false_eq_true,if_false];omega
 rw[hc];constructor
 ·intro h;split at h
  ·omega
  ·split at h<;>omega
 ·intro h;rw[h];simp
theorem bare_n (d:Nat) (v:VT) (g o:Nat) (w:World) (h:PtrTo w (d+1) v g o) :
  Calls Tryz.prog 125 #[.pointer (some ⟨g,o,none⟩),.bool true,.bool false,.bool false,.bool false] w fun e w'=>e=.returned (.bool (bareV v true false false false))∧w=w':=by
 obtain⟨pn,p,cap,hg,x0,x1,x2,x3,x4,x5,h4,h5,h6,h7,h9⟩:=h.open
 have HO:=zh (fun w=>order_any v.flt 0 h4 (by unfold F64;omega) w);have hz:=ord_zero h4;obtain⟨pp,pc,rfl⟩:=h6.lenOf;have HB:=bareV.eq_def v true false false false;clear h9 h5 h6 h7 h x0 hg h4;have hnm:v.names.isEmpty=decide (v.names.length=0):=by cases v.names<;>simp
 have hit:v.items.isEmpty=decide (v.items.length=0):=by cases v.items<;>simp
 have hst:v.str.isEmpty=(⟨v.str.toArray⟩:ByteArray).toList.isEmpty:=by rw[ByteArray.toList_eq]
 rw[hnm,hit,hst,←hz]at HB;generalize v.names.length=N at *;generalize v.items.length=M at *;generalize (⟨v.str.toArray⟩:ByteArray)=S at *;generalize v.num=K at *;generalize ordB v.flt 0=Z at *;clear hnm hit hst hz;by_cases c2:Z=0
 ·have t2:(Z==0)=true:=by rw[c2];rfl
  rw[t2]at HB;clear c2;by_cases c3:S.toList=[]
  ·have t3:S.toList.isEmpty=true:=by rw[c3];rfl
   rw[t3]at HB;by_cases c4:N=0
   ·have t4:((N:Int)==0)=true:=by rw[c4];rfl
    rw[show decide (N=0)=true from decide_eq_true c4]at HB;by_cases c5:M=0
    ·have t5:((M:Int)==0)=true:=by rw[c5];rfl
     rw[show decide (M=0)=true from decide_eq_true c5]at HB;have HB:=zh HB;clear c4 c5;go_in;go_wp2_with (go_at_call 79;refine(HO.out _).mono ?_;rintro e w' ⟨rfl,rfl⟩)
     go_ret;exact⟨ret_val (by rw[HB.out];rfl),rfl⟩
    ·have t5:((M:Int)==0)=false:=by rw[beq_eq_false_iff_ne];omega
     rw[show decide (M=0)=false from decide_eq_false c5]at HB;have HB:=zh HB;clear c4;go_in;go_wp2_with (go_at_call 79;refine(HO.out _).mono ?_;rintro e w' ⟨rfl,rfl⟩)
     go_ret;exact⟨ret_val (by rw[HB.out];rfl),rfl⟩
   ·have t4:((N:Int)==0)=false:=by rw[beq_eq_false_iff_ne];omega
    rw[show decide (N=0)=false from decide_eq_false c4]at HB;have HB:=zh HB;go_in;go_wp2_with (go_at_call 79;refine(HO.out _).mono ?_;rintro e w' ⟨rfl,rfl⟩)
    go_ret;exact⟨ret_val (by rw[HB.out];rfl),rfl⟩
  ·have t3:S.toList.isEmpty=false:=by cases hh:S.toList with|nil=>exact absurd hh c3|cons a b=>rfl
   rw[t3]at HB;have HB:=zh HB;go_in;go_wp2_with (go_at_call 79;refine(HO.out _).mono ?_;rintro e w' ⟨rfl,rfl⟩)
   go_ret;exact⟨ret_val (by rw[HB.out];rfl),rfl⟩
 ·have t2:(Z==0)=false:=beq_eq_false_iff_ne.2 c2;rw[t2]at HB;clear c2;have HB:=zh HB;go_in;go_wp2_with (go_at_call 79;refine(HO.out _).mono ?_;rintro e w' ⟨rfl,rfl⟩)
  go_ret;exact⟨ret_val (by rw[HB.out];rfl),rfl⟩
theorem bare_f (d:Nat) (v:VT) (g o:Nat) (w:World) (h:PtrTo w (d+1) v g o) :
  Calls Tryz.prog 125 #[.pointer (some ⟨g,o,none⟩),.bool false,.bool true,.bool false,.bool false] w fun e w'=>e=.returned (.bool (bareV v false true false false))∧w=w':=by
 obtain⟨pn,p,cap,hg,x0,x1,x2,x3,x4,x5,h4,h5,h6,h7,h9⟩:=h.open
 have HO:=zh (fun w=>order_any v.flt 0 h4 (by unfold F64;omega) w);have hz:=ord_zero h4;obtain⟨pp,pc,rfl⟩:=h6.lenOf;have HB:=bareV.eq_def v false true false false;clear h9 h5 h6 h7 h x0 hg h4;have hnm:v.names.isEmpty=decide (v.names.length=0):=by cases v.names<;>simp
 have hit:v.items.isEmpty=decide (v.items.length=0):=by cases v.items<;>simp
 have hst:v.str.isEmpty=(⟨v.str.toArray⟩:ByteArray).toList.isEmpty:=by rw[ByteArray.toList_eq]
 rw[hnm,hit,hst,←hz]at HB;generalize v.names.length=N at *;generalize v.items.length=M at *;generalize (⟨v.str.toArray⟩:ByteArray)=S at *;generalize v.num=K at *;generalize ordB v.flt 0=Z at *;clear hnm hit hst hz;by_cases c1:K=0
 ·have t1:(K==0)=true:=by rw[c1];rfl
  rw[show decide (K=0)=true from decide_eq_true c1]at HB;clear c1;by_cases c3:S.toList=[]
  ·have t3:S.toList.isEmpty=true:=by rw[c3];rfl
   rw[t3]at HB;by_cases c4:N=0
   ·have t4:((N:Int)==0)=true:=by rw[c4];rfl
    rw[show decide (N=0)=true from decide_eq_true c4]at HB;by_cases c5:M=0
    ·have t5:((M:Int)==0)=true:=by rw[c5];rfl
     rw[show decide (M=0)=true from decide_eq_true c5]at HB;have HB:=zh HB;clear c4 c5;go_in;go_wp2_with (go_at_call 79;refine(HO.out _).mono ?_;rintro e w' ⟨rfl,rfl⟩)
     go_ret;exact⟨ret_val (by rw[HB.out];rfl),rfl⟩
    ·have t5:((M:Int)==0)=false:=by rw[beq_eq_false_iff_ne];omega
     rw[show decide (M=0)=false from decide_eq_false c5]at HB;have HB:=zh HB;clear c4;go_in;go_wp2_with (go_at_call 79;refine(HO.out _).mono ?_;rintro e w' ⟨rfl,rfl⟩)
     go_ret;exact⟨ret_val (by rw[HB.out];rfl),rfl⟩
   ·have t4:((N:Int)==0)=false:=by rw[beq_eq_false_iff_ne];omega
    rw[show decide (N=0)=false from decide_eq_false c4]at HB;have HB:=zh HB;go_in;go_wp2_with (go_at_call 79;refine(HO.out _).mono ?_;rintro e w' ⟨rfl,rfl⟩)
    go_ret;exact⟨ret_val (by rw[HB.out];rfl),rfl⟩
  ·have t3:S.toList.isEmpty=false:=by cases hh:S.toList with|nil=>exact absurd hh c3|cons a b=>rfl
   rw[t3]at HB;have HB:=zh HB;go_in;go_wp2_with (go_at_call 79;refine(HO.out _).mono ?_;rintro e w' ⟨rfl,rfl⟩)
   go_ret;exact⟨ret_val (by rw[HB.out];rfl),rfl⟩
 ·have t1:(K==0)=false:=beq_eq_false_iff_ne.2 c1;rw[show decide (K=0)=false from decide_eq_false c1]at HB;clear c1;have HB:=zh HB;go_in;go_wp2_with (go_at_call 79;refine(HO.out _).mono ?_;rintro e w' ⟨rfl,rfl⟩)
  go_ret;exact⟨ret_val (by rw[HB.out];rfl),rfl⟩
theorem bare_s (d:Nat) (v:VT) (g o:Nat) (w:World) (h:PtrTo w (d+1) v g o) :
  Calls Tryz.prog 125 #[.pointer (some ⟨g,o,none⟩),.bool false,.bool false,.bool true,.bool false] w fun e w'=>e=.returned (.bool (bareV v false false true false))∧w=w':=by
 obtain⟨pn,p,cap,hg,x0,x1,x2,x3,x4,x5,h4,h5,h6,h7,h9⟩:=h.open
 have HO:=zh (fun w=>order_any v.flt 0 h4 (by unfold F64;omega) w);have hz:=ord_zero h4;obtain⟨pp,pc,rfl⟩:=h6.lenOf;have HB:=bareV.eq_def v false false true false;clear h9 h5 h6 h7 h x0 hg h4;have hnm:v.names.isEmpty=decide (v.names.length=0):=by cases v.names<;>simp
 have hit:v.items.isEmpty=decide (v.items.length=0):=by cases v.items<;>simp
 have hst:v.str.isEmpty=(⟨v.str.toArray⟩:ByteArray).toList.isEmpty:=by rw[ByteArray.toList_eq]
 rw[hnm,hit,hst,←hz]at HB;generalize v.names.length=N at *;generalize v.items.length=M at *;generalize (⟨v.str.toArray⟩:ByteArray)=S at *;generalize v.num=K at *;generalize ordB v.flt 0=Z at *;clear hnm hit hst hz;by_cases c1:K=0
 ·have t1:(K==0)=true:=by rw[c1];rfl
  rw[show decide (K=0)=true from decide_eq_true c1]at HB;clear c1;by_cases c2:Z=0
  ·have t2:(Z==0)=true:=by rw[c2];rfl
   rw[t2]at HB;clear c2;by_cases c4:N=0
   ·have t4:((N:Int)==0)=true:=by rw[c4];rfl
    rw[show decide (N=0)=true from decide_eq_true c4]at HB;by_cases c5:M=0
    ·have t5:((M:Int)==0)=true:=by rw[c5];rfl
     rw[show decide (M=0)=true from decide_eq_true c5]at HB;have HB:=zh HB;clear c4 c5;go_in;go_wp2_with (go_at_call 79;refine(HO.out _).mono ?_;rintro e w' ⟨rfl,rfl⟩)
     go_ret;exact⟨ret_val (by rw[HB.out];rfl),rfl⟩
    ·have t5:((M:Int)==0)=false:=by rw[beq_eq_false_iff_ne];omega
     rw[show decide (M=0)=false from decide_eq_false c5]at HB;have HB:=zh HB;clear c4;go_in;go_wp2_with (go_at_call 79;refine(HO.out _).mono ?_;rintro e w' ⟨rfl,rfl⟩)
     go_ret;exact⟨ret_val (by rw[HB.out];rfl),rfl⟩
   ·have t4:((N:Int)==0)=false:=by rw[beq_eq_false_iff_ne];omega
    rw[show decide (N=0)=false from decide_eq_false c4]at HB;have HB:=zh HB;go_in;go_wp2_with (go_at_call 79;refine(HO.out _).mono ?_;rintro e w' ⟨rfl,rfl⟩)
    go_ret;exact⟨ret_val (by rw[HB.out];rfl),rfl⟩
  ·have t2:(Z==0)=false:=beq_eq_false_iff_ne.2 c2;rw[t2]at HB;clear c2;have HB:=zh HB;go_in;go_wp2_with (go_at_call 79;refine(HO.out _).mono ?_;rintro e w' ⟨rfl,rfl⟩)
   go_ret;exact⟨ret_val (by rw[HB.out];rfl),rfl⟩
 ·have t1:(K==0)=false:=beq_eq_false_iff_ne.2 c1;rw[show decide (K=0)=false from decide_eq_false c1]at HB;clear c1;have HB:=zh HB;go_in;go_wp2_with (go_at_call 79;refine(HO.out _).mono ?_;rintro e w' ⟨rfl,rfl⟩)
  go_ret;exact⟨ret_val (by rw[HB.out];rfl),rfl⟩
theorem bare_r (d:Nat) (v:VT) (g o:Nat) (w:World) (h:PtrTo w (d+1) v g o) :
  Calls Tryz.prog 125 #[.pointer (some ⟨g,o,none⟩),.bool false,.bool false,.bool false,.bool true] w fun e w'=>e=.returned (.bool (bareV v false false false true))∧w=w':=by
 obtain⟨pn,p,cap,hg,x0,x1,x2,x3,x4,x5,h4,h5,h6,h7,h9⟩:=h.open
 have HO:=zh (fun w=>order_any v.flt 0 h4 (by unfold F64;omega) w);have hz:=ord_zero h4;obtain⟨pp,pc,rfl⟩:=h6.lenOf;have HB:=bareV.eq_def v false false false true;clear h9 h5 h6 h7 h x0 hg h4;have hnm:v.names.isEmpty=decide (v.names.length=0):=by cases v.names<;>simp
 have hit:v.items.isEmpty=decide (v.items.length=0):=by cases v.items<;>simp
 have hst:v.str.isEmpty=(⟨v.str.toArray⟩:ByteArray).toList.isEmpty:=by rw[ByteArray.toList_eq]
 rw[hnm,hit,hst,←hz]at HB;generalize v.names.length=N at *;generalize v.items.length=M at *;generalize (⟨v.str.toArray⟩:ByteArray)=S at *;generalize v.num=K at *;generalize ordB v.flt 0=Z at *;clear hnm hit hst hz;by_cases c1:K=0
 ·have t1:(K==0)=true:=by rw[c1];rfl
  rw[show decide (K=0)=true from decide_eq_true c1]at HB;clear c1;by_cases c2:Z=0
  ·have t2:(Z==0)=true:=by rw[c2];rfl
   rw[t2]at HB;clear c2;by_cases c3:S.toList=[]
   ·have t3:S.toList.isEmpty=true:=by rw[c3];rfl
    rw[t3]at HB;have HB:=zh HB;go_in;go_wp2_with (go_at_call 79;refine(HO.out _).mono ?_;rintro e w' ⟨rfl,rfl⟩)
    go_ret;exact⟨ret_val (by rw[HB.out];rfl),rfl⟩
   ·have t3:S.toList.isEmpty=false:=by cases hh:S.toList with|nil=>exact absurd hh c3|cons a b=>rfl
    rw[t3]at HB;have HB:=zh HB;go_in;go_wp2_with (go_at_call 79;refine(HO.out _).mono ?_;rintro e w' ⟨rfl,rfl⟩)
    go_ret;exact⟨ret_val (by rw[HB.out];rfl),rfl⟩
  ·have t2:(Z==0)=false:=beq_eq_false_iff_ne.2 c2;rw[t2]at HB;clear c2;have HB:=zh HB;go_in;go_wp2_with (go_at_call 79;refine(HO.out _).mono ?_;rintro e w' ⟨rfl,rfl⟩)
   go_ret;exact⟨ret_val (by rw[HB.out];rfl),rfl⟩
 ·have t1:(K==0)=false:=beq_eq_false_iff_ne.2 c1;rw[show decide (K=0)=false from decide_eq_false c1]at HB;clear c1;have HB:=zh HB;go_in;go_wp2_with (go_at_call 79;refine(HO.out _).mono ?_;rintro e w' ⟨rfl,rfl⟩)
  go_ret;exact⟨ret_val (by rw[HB.out];rfl),rfl⟩
end
end Go.Proofs.YtaaaaggmhjhkkaaGreatDoor
