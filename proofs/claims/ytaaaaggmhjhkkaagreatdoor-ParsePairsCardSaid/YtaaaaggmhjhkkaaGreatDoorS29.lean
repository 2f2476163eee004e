/-
  An in one text.
-/
import Derived.Test.YtaaaaggmhjhkkaaGreatDoorS10
import Derived.Test.YtaaaaggmhjhkkaaGreatDoorS24
import Derived.Test.YtaaaaggmhjhkkaaGreatDoorCl
set_option maxRecDepth 100000
set_option maxHeartbeats 2000000
namespace Go.Proofs.YtaaaaggmhjhkkaaGreatDoor
open Go.RowKit
theorem nan_int (n:Int) (w:World):Calls Tryz.prog 119 #[.int .i64 n] w fun e w'=>e=.returned (.bool false)∧w=w':=by
 have t0:(n != n)=false:=by simp
 go_in;go_wp2_with fail
 go_ret;exact⟨rfl,rfl⟩
theorem cmpQ_int (n m:Int) (w:World):Calls Tryz.prog 97 #[.int .i64 n,.int .i64 m] w fun e w'=>e=.returned (.int .i64 (sgnI n m))∧w=w':=by
 have hs:=sgnI.eq_def n m;have HN:=zh (fun n w=>nan_int n w);by_cases h:n<m
 ·have t1:decide (n<m)=true:=decide_eq_true h;rw[if_pos h]at hs;have HS:=zh hs;clear hs;go_in;go_wp2_with fail
  refine(HN.out _ _).mono ?_;rintro e w1 ⟨rfl,rfl⟩;go_wp2_with fail
  refine(HN.out _ _).mono ?_;rintro e w2 ⟨rfl,rfl⟩;go_wp2_with fail
  go_ret;exact⟨ret_val (by rw[HS.out];rfl),rfl⟩
 ·have t1:decide (n<m)=false:=decide_eq_false h;rw[if_neg h]at hs;by_cases h2:m<n
  ·have t2:decide (m<n)=true:=decide_eq_true h2;rw[if_pos h2]at hs;have HS:=zh hs;clear hs;go_in;go_wp2_with fail
   refine(HN.out _ _).mono ?_;rintro e w1 ⟨rfl,rfl⟩;go_wp2_with fail
   refine(HN.out _ _).mono ?_;rintro e w2 ⟨rfl,rfl⟩;go_wp2_with fail
   go_ret;exact⟨ret_val (by rw[HS.out];rfl),rfl⟩
  ·have t2:decide (m<n)=false:=decide_eq_false h2;rw[if_neg h2]at hs;have HS:=zh hs;clear hs;go_in;go_wp2_with fail
   refine(HN.out _ _).mono ?_;rintro e w1 ⟨rfl,rfl⟩;go_wp2_with fail
   refine(HN.out _ _).mono ?_;rintro e w2 ⟨rfl,rfl⟩;go_wp2_with fail
   go_ret;exact⟨ret_val (by rw[HS.out];rfl),rfl⟩
theorem nan_int64 (n:Int) (w:World):Calls Tryz.prog 153 #[.int .i64 n] w fun e w'=>e=.returned (.bool false)∧w=w':=by
 have t0:(n != n)=false:=by simp
 go_in;go_wp2_with fail
 go_ret;exact⟨rfl,rfl⟩
theorem cmpQ_int64 (n m:Int) (w:World):Calls Tryz.prog 120 #[.int .i64 n,.int .i64 m] w fun e w'=>e=.returned (.int .i64 (sgnI n m))∧w=w':=by
 have hs:=sgnI.eq_def n m;have HN:=zh (fun n w=>nan_int64 n w);by_cases h:n<m
 ·have t1:decide (n<m)=true:=decide_eq_true h;rw[if_pos h]at hs;have HS:=zh hs;clear hs;go_in;go_wp2_with fail
  refine(HN.out _ _).mono ?_;rintro e w1 ⟨rfl,rfl⟩;go_wp2_with fail
  refine(HN.out _ _).mono ?_;rintro e w2 ⟨rfl,rfl⟩;go_wp2_with fail
  go_ret;exact⟨ret_val (by rw[HS.out];rfl),rfl⟩
 ·have t1:decide (n<m)=false:=decide_eq_false h;rw[if_neg h]at hs;by_cases h2:m<n
  ·have t2:decide (m<n)=true:=decide_eq_true h2;rw[if_pos h2]at hs;have HS:=zh hs;clear hs;go_in;go_wp2_with fail
   refine(HN.out _ _).mono ?_;rintro e w1 ⟨rfl,rfl⟩;go_wp2_with fail
   refine(HN.out _ _).mono ?_;rintro e w2 ⟨rfl,rfl⟩;go_wp2_with fail
   go_ret;exact⟨ret_val (by rw[HS.out];rfl),rfl⟩
  ·have t2:decide (m<n)=false:=decide_eq_false h2;rw[if_neg h2]at hs;have HS:=zh hs;clear hs;go_in;go_wp2_with fail
   refine(HN.out _ _).mono ?_;rintro e w1 ⟨rfl,rfl⟩;go_wp2_with fail
   refine(HN.out _ _).mono ?_;rintro e w2 ⟨rfl,rfl⟩;go_wp2_with fail
   go_ret;exact⟨ret_val (by rw[HS.out];rfl),rfl⟩
theorem cmp_string (s t:ByteArray) (w:World):Calls Tryz.prog 155 #[.string s,.string t] w fun e w'=>e=.returned (.int .i64 (txtO s.toList t.toList))∧w=w':=by
 have hs:=txtO.eq_def s.toList t.toList;have HN:=zh (fun n w=>nan_string n w);cases t1:Op.bytesLess s.toList t.toList
 ·rw[t1,if_neg (by decide)]at hs;by_cases h2:s.toList=t.toList
  ·rw[if_pos h2]at hs;have t2:(s.toList==t.toList)=true:=beq_iff_eq.2 h2;have HS:=zh hs;clear hs h2;go_in;go_wp2_with fail
   refine(HN.out _ _).mono ?_;rintro e w1 ⟨rfl,rfl⟩;go_wp2_with fail
   refine(HN.out _ _).mono ?_;rintro e w2 ⟨rfl,rfl⟩;go_wp2_with fail
   go_ret;exact⟨ret_val (by rw[HS.out];rfl),rfl⟩
  ·rw[if_neg h2]at hs;have t2:(s.toList==t.toList)=false:=beq_eq_false_iff_ne.2 h2;have HS:=zh hs;clear hs h2;go_in;go_wp2_with fail
   refine(HN.out _ _).mono ?_;rintro e w1 ⟨rfl,rfl⟩;go_wp2_with fail
   refine(HN.out _ _).mono ?_;rintro e w2 ⟨rfl,rfl⟩;go_wp2_with fail
   go_ret;exact⟨ret_val (by rw[HS.out];rfl),rfl⟩
 ·rw[t1,if_pos rfl]at hs;have HS:=zh hs;clear hs;go_in;go_wp2_with fail
  refine(HN.out _ _).mono ?_;rintro e w1 ⟨rfl,rfl⟩;go_wp2_with fail
  refine(HN.out _ _).mono ?_;rintro e w2 ⟨rfl,rfl⟩;go_wp2_with fail
  go_ret;exact⟨ret_val (by rw[HS.out];rfl),rfl⟩
theorem cmpB_txt:∀ a b:List UInt8,Lib.compareBytes a b=txtO a b
 | [],[]=>rfl
 | [],_::_=>by simp[Lib.compareBytes,txtO,Op.bytesLess]
 | _::_,[]=>by simp[Lib.compareBytes,txtO,Op.bytesLess]
 | x::a,y::b=>by
  have ih:=cmpB_txt a b;rw[Lib.compareBytes,ih];unfold txtO;rw[Op.bytesLess];by_cases h1:x<y
  ·simp[h1]
  ·by_cases h2:y<x
   ·have:x≠y:=by rintro rfl;exact h1 h2
    simp[h1,h2,this]
   ·have:x=y:=by
     apply UInt8.toNat_inj.1
     have a1:¬ x.toNat<y.toNat:=fun h=>h1 (UInt8.lt_iff_toNat_lt.2 h)
     have a2:¬ y.toNat<x.toNat:=fun h=>h2 (UInt8.lt_iff_toNat_lt.2 h)
     omega
    subst this;simp[h1]
theorem bcompare_any (s t:ByteArray) (w:World):Calls Tryz.prog 154 #[.string s,.string t] w fun e w'=>e=.returned (.int .i64 (txtO s.toList t.toList))∧w=w':=by
 have he:=cmpB_txt s.data.toList t.data.toList;rw[←ByteArray.toList_eq,←ByteArray.toList_eq]at he;go_in;go_wp2
 rw[run_callFunc_extern Tryz.func178 (by kernel_rfl) (by kernel_rfl) (by kernel_rfl) (e:=Extern.BytealgCompare.compare) (by kernel_rfl),Lib.run_compareString];simp only[Result.andThen];rw[Oper.upon_value];rw[←ByteArray.toList_eq,←ByteArray.toList_eq,he];go_wp2
 go_ret;exact⟨rfl,rfl⟩
theorem scompare_any (s t:ByteArray) (w:World):Calls Tryz.prog 121 #[.string s,.string t] w fun e w'=>e=.returned (.int .i64 (txtO s.toList t.toList))∧w=w':=by
 have HB:=zh (fun w=>bcompare_any s t w);go_in;go_wp2_with fail
 refine(HB.out _).mono ?_;rintro e w1 ⟨rfl,rfl⟩;go_wp2_with fail
 go_ret;exact⟨rfl,rfl⟩
theorem srows_any (l m:List (List UInt8)) (u v:Value) (w:World) (hu:Strs w l u) (hv:Strs w m v):Calls Tryz.prog 122 #[u,v] w fun e w'=>e=.returned (.int .i64 (rowsO l m))∧w=w':=by
 obtain⟨p,c,rfl,hln,hcu⟩:=hu.row;obtain⟨q,d,rfl,hlm,hcv⟩:=hv.row;have HT:=zh (fun(a b:List UInt8) w=>(show Calls Tryz.prog 155 #[.string ⟨a.toArray⟩,.string ⟨b.toArray⟩] w (fun e w'=>e=.returned (.int .i64 (txtO a b))∧w=w') from by
  have:=cmp_string ⟨a.toArray⟩ ⟨b.toArray⟩ w;rwa [ByteArray.toList_eq,ByteArray.toList_eq]at this))
 have HCu:=zh hcu;have HCv:=zh hcv;have HStep:=zh (fun i (h1:i<l.length) h2=>rowsO_step (a:=l) (b:=m) (i:=i) h1 h2);have HEnd:=zh (fun i (h1:i≤l.length) h2 h3=>rowsO_end (a:=l) (b:=m) (i:=i) h1 h2 h3);clear hu hv hcu hcv;generalize l.length=N at *;generalize m.length=M at *;have h0:Hid (rowsO l m=rowsO (l.drop 0) (m.drop 0)):=by show _=_;rw[List.drop_zero,List.drop_zero]
 generalize rowsO l m=R at *;go_in;go_wp2_with fail
 go_loopw [11] (fun iv wr=>∃ i:Nat,iv=.int .i64 (i:Int)∧i≤N∧i≤M∧Hid (R=rowsO (l.drop i) (m.drop i))∧w=wr) (fun iv _=>N - (intOf iv).toNat)
 case atStart=>exact⟨0,rfl,Nat.zero_le _,Nat.zero_le _,h0,rfl⟩
 case round =>
  clear h0;obtain⟨i,rfl,hi,hj,hR,rfl⟩:=hrel;by_cases hlt:i<N
  ·have t0:decide ((i:Int)<(N:Int))=true:=by simp;omega
   obtain⟨g,off,rfl,c1⟩:=HCu.out i hlt;have b1:(0:Int)≤(i:Int):=by omega
   have b2:(i:Int)<(N:Int):=by omega
   by_cases hlm:i<M
   ·have t1:decide ((M:Int)≤(i:Int))=false:=by simp;omega
    obtain⟨g',off',rfl,c2⟩:=HCv.out i hlm;have hst:=HStep.out i hlt hlm;have b3:(i:Int)<(M:Int):=by omega
    have HT2:=zh (fun w=>HT.out (l.getD i []) (m.getD i []) w);generalize txtO (l.getD i []) (m.getD i [])=T at *;generalize (⟨(l.getD i []).toArray⟩:ByteArray)=s at *;generalize (⟨(m.getD i []).toArray⟩:ByteArray)=s' at *;by_cases hT:T=0
    ·rw[if_pos hT]at hst;subst hT;have HST:=zh hst;clear hst;go_wp2_with fail
     refine(HT2.out _).mono ?_;rintro e w1 ⟨rfl,rfl⟩;go_wp2_with fail
     go_roundw
     case rel=>exact⟨i+1,by go_num,by omega,by omega,by show _=_;rw[hR.out,HST.out],by first|rfl|trivial⟩
     case measure=>simp[intOf];omega
    ·rw[if_neg hT]at hst;have t2:(T != 0)=true:=by rw[bne_iff_ne];exact hT
     have HST:=zh hst;clear hst hT;go_wp2_with fail
     refine(HT2.out _).mono ?_;rintro e w1 ⟨rfl,rfl⟩;go_wp2_with fail
     go_ret;exact⟨ret_val (by rw[hR.out,HST.out];rfl),rfl⟩
   ·have t1:decide ((M:Int)≤(i:Int))=true:=by simp;omega
    have HE:=zh (HEnd.out i hi hj (.inr (by omega)));have HS:=zh (show sgnI (N:Int) (M:Int)=1 from by unfold sgnI;rw[if_neg (by omega),if_pos (by omega)]);go_wp2_with fail
    go_ret;exact⟨ret_val (by rw[hR.out,HE.out,HS.out];rfl),rfl⟩
  ·have t0:decide ((i:Int)<(N:Int))=false:=by simp;omega
   have HE:=zh (HEnd.out i hi hj (.inl (by omega)));by_cases hlm:N<M
   ·have t1:decide ((N:Int)<(M:Int))=true:=by simp;omega
    have HS:=zh (show sgnI (N:Int) (M:Int) = -1 from by unfold sgnI;rw[if_pos (by omega)]);go_wp2_with fail
    go_ret;exact⟨ret_val (by rw[hR.out,HE.out,HS.out];rfl),rfl⟩
   ·have t1:decide ((N:Int)<(M:Int))=false:=by simp;omega
    have HS:=zh (show sgnI (N:Int) (M:Int)=0 from by unfold sgnI;rw[if_neg (by omega),if_neg (by omega)]);go_wp2_with fail
    go_ret;exact⟨ret_val (by rw[hR.out,HE.out,HS.out];rfl),rfl⟩
theorem or3_any (a b c:Int) (g:Nat) (w:World) (h0:w.cell? ⟨g,0,none⟩=some (.int .i64 a)) (h1:w.cell? ⟨g,1,none⟩=some (.int .i64 b)) (h2:w.cell? ⟨g,2,none⟩=some (.int .i64 c)) :
  Calls Tryz.prog 123 #[.slice (some ⟨g,0,none⟩) 3 3] w fun e w'=>e=.returned (.int .i64 (if a=0 then(if b=0 then c else b) else a))∧w=w':=by
 generalize hr:(if a=0 then(if b=0 then c else b) else a)=r
 have HR:=zh hr;clear hr;by_cases ha:a=0
 ·subst ha;by_cases hb:b=0
  ·subst hb;have HR2:=zh (show c=r from by rw[←HR.out,if_pos rfl,if_pos rfl]);by_cases hc:c=0
   ·subst hc;go_in;go_wp2_with fail
    refine wp_loop_rounds 4 ?_;rw[rounds_succ];go_wp2_with fail
    rw[rounds_succ];go_wp2_with fail
    rw[rounds_succ];go_wp2_with fail
    rw[rounds_succ];go_wp2_with fail
    go_ret;exact⟨ret_val (by rw[←HR2.out];rfl),rfl⟩
   ·have tc:(c != 0)=true:=by rw[bne_iff_ne];exact hc
    clear hc;go_in;go_wp2_with fail
    refine wp_loop_rounds 3 ?_;rw[rounds_succ];go_wp2_with fail
    rw[rounds_succ];go_wp2_with fail
    rw[rounds_succ];go_wp2_with fail
    go_ret;exact⟨ret_val (by rw[←HR2.out];rfl),rfl⟩
  ·have tb:(b != 0)=true:=by rw[bne_iff_ne];exact hb
   have HR2:=zh (show b=r from by rw[←HR.out,if_pos rfl,if_neg hb]);clear hb;go_in;go_wp2_with fail
   refine wp_loop_rounds 2 ?_;rw[rounds_succ];go_wp2_with fail
   rw[rounds_succ];go_wp2_with fail
   go_ret;exact⟨ret_val (by rw[←HR2.out];rfl),rfl⟩
 ·have ta:(a != 0)=true:=by rw[bne_iff_ne];exact ha
  have HR2:=zh (show a=r from by rw[←HR.out,if_neg ha]);clear ha;go_in;go_wp2_with fail
  refine wp_loop_rounds 1 ?_;rw[rounds_succ];go_wp2_with fail
  go_ret;exact⟨ret_val (by rw[←HR2.out];rfl),rfl⟩
theorem leaf_yes (k:Int) (h:1≤k∧k≤4) (w:World):Calls Tryz.prog 99 #[.int .i64 k] w fun e w'=>e=.returned (.bool true)∧w=w':=by
 have t1:decide ((1:Int)≤k)=true:=decide_eq_true h.1;have t2:decide (k≤(4:Int))=true:=decide_eq_true h.2;clear h;go_in;go_wp2_with fail
 go_ret;exact⟨rfl,rfl⟩
theorem leaf_no (k:Int) (h:¬ (1≤k∧k≤4)) (w:World):Calls Tryz.prog 99 #[.int .i64 k] w fun e w'=>e=.returned (.bool false)∧w=w':=by
 by_cases h1:1≤k
 ·have t1:decide ((1:Int)≤k)=true:=decide_eq_true h1;have t2:decide (k≤(4:Int))=false:=decide_eq_false (by omega);clear h h1;go_in;go_wp2_with fail
  go_ret;exact⟨rfl,rfl⟩
 ·have t1:decide ((1:Int)≤k)=false:=decide_eq_false h1;clear h h1;go_in;go_wp2_with fail
  go_ret;exact⟨rfl,rfl⟩
end Go.Proofs.YtaaaaggmhjhkkaaGreatDoor
