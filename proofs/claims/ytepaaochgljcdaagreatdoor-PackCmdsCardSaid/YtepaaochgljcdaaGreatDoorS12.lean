/-
  Ys, Yt, A2, An, Ao, Ap in one text.
-/
import Derived.Shelf.Abstract
import Derived.Test.YtepaaochgljcdaaGreatDoorS03
import Derived.Test.YtepaaochgljcdaaGreatDoorCl
set_option maxRecDepth 100000
set_option maxHeartbeats 8000000
namespace Go.Proofs.YtepaaochgljcdaaGreatDoor
section
open Go.RowKit
theorem nothing_any (d:Nat) (v:VT) (g o:Nat) (w:World) (h:PtrTo w (d+1) v g o) (hk:v.kind=0) :
  Calls Tryz.prog 116 #[.pointer (some ⟨g,o,none⟩)] w fun e w'=>e=.returned (.bool (bareV v false false false false))∧w=w':=by
 obtain⟨pn,p,cap,hg,x0,x1,x2,x3,x4,x5,h4,h5,h6,h7,h9⟩:=h.open
 rw[hk]at x0;have HO:=zh (fun w=>order_any v.flt 0 h4 (by unfold F64;omega) w);have hz:=ord_zero h4;obtain⟨pp,pc,rfl⟩:=h6.lenOf;have HB:=bareV.eq_def v false false false false;clear h9 h5 h6 h7 h hg h4 hk;have hnm:v.names.isEmpty=decide (v.names.length=0):=by cases v.names<;>simp
 have hit:v.items.isEmpty=decide (v.items.length=0):=by cases v.items<;>simp
 have hst:v.str.isEmpty=(⟨v.str.toArray⟩:ByteArray).toList.isEmpty:=by rw[ByteArray.toList_eq]
 rw[hnm,hit,hst,←hz]at HB;generalize v.names.length=N at *;generalize v.items.length=M at *;generalize (⟨v.str.toArray⟩:ByteArray)=S at *;generalize v.num=K at *;generalize ordB v.flt 0=Z at *;clear hnm hit hst hz;by_cases c1:K=0
 ·have t1:(K==0)=true:=by rw[c1];rfl
  rw[show decide (K=0)=true from decide_eq_true c1]at HB;clear c1;by_cases c2:Z=0
  ·have t2:(Z==0)=true:=by rw[c2];rfl
   rw[t2]at HB;clear c2;by_cases c3:S.toList=[]
   ·have t3:S.toList.isEmpty=true:=by rw[c3];rfl
    rw[t3]at HB;by_cases c4:N=0
    ·have t4:((N:Int)==0)=true:=by rw[c4];rfl
     rw[show decide (N=0)=true from decide_eq_true c4]at HB;by_cases c5:M=0
     ·have t5:((M:Int)==0)=true:=by rw[c5];rfl
      rw[show decide (M=0)=true from decide_eq_true c5]at HB;have HB:=zh HB;clear c4 c5;go_in;go_wp2_with (go_at_call 144;refine(HO.out _).mono ?_;rintro e w' ⟨rfl,rfl⟩)
      go_ret;exact⟨ret_val (by rw[HB.out];rfl),rfl⟩
     ·have t5:((M:Int)==0)=false:=by rw[beq_eq_false_iff_ne];omega
      rw[show decide (M=0)=false from decide_eq_false c5]at HB;have HB:=zh HB;clear c4;go_in;go_wp2_with (go_at_call 144;refine(HO.out _).mono ?_;rintro e w' ⟨rfl,rfl⟩)
      go_ret;exact⟨ret_val (by rw[HB.out];rfl),rfl⟩
    ·have t4:((N:Int)==0)=false:=by rw[beq_eq_false_iff_ne];omega
     rw[show decide (N=0)=false from decide_eq_false c4]at HB;have HB:=zh HB;go_in;go_wp2_with (go_at_call 144;refine(HO.out _).mono ?_;rintro e w' ⟨rfl,rfl⟩)
     go_ret;exact⟨ret_val (by rw[HB.out];rfl),rfl⟩
   ·have t3:S.toList.isEmpty=false:=by cases hh:S.toList with|nil=>exact absurd hh c3|cons a b=>rfl
    rw[t3]at HB;have HB:=zh HB;go_in;go_wp2_with (go_at_call 144;refine(HO.out _).mono ?_;rintro e w' ⟨rfl,rfl⟩)
    go_ret;exact⟨ret_val (by rw[HB.out];rfl),rfl⟩
  ·have t2:(Z==0)=false:=beq_eq_false_iff_ne.2 c2;rw[t2]at HB;clear c2;have HB:=zh HB;go_in;go_wp2_with (go_at_call 144;refine(HO.out _).mono ?_;rintro e w' ⟨rfl,rfl⟩)
   go_ret;exact⟨ret_val (by rw[HB.out];rfl),rfl⟩
 ·have t1:(K==0)=false:=beq_eq_false_iff_ne.2 c1;rw[show decide (K=0)=false from decide_eq_false c1]at HB;clear c1;have HB:=zh HB;go_in;go_wp2_with (go_at_call 144;refine(HO.out _).mono ?_;rintro e w' ⟨rfl,rfl⟩)
  go_ret;exact⟨ret_val (by rw[HB.out];rfl),rfl⟩
/-- an expression in memory: the variable x with a value -/
def ExAt (w:World) (d:Nat) (v:VT) (g:Nat):Prop:=∃ pn pi,w.heap[g]?=some (.cells #[.int .i64 2,.string ⟨#[120]⟩,.int .i64 v.kind,.int .i64 v.num,.float .f64 v.flt,.string ⟨v.str.toArray⟩,pn,pi,.slice none 0 0,.slice none 0 0] 105 (0,0))∧ValAt w d v #[.int .i64 v.kind,.int .i64 v.num,.float .f64 v.flt,.string ⟨v.str.toArray⟩,pn,pi]
theorem ExAt.kept {w w':World} {d:Nat} {v:VT} {g:Nat} (h:ExAt w d v g) (hb:Below w.heap.size w w'):ExAt w' d v g:=by
 obtain⟨pn,pi,h1,h2⟩:=h;exact⟨pn,pi,(hb.block g (lt_of_block h1)).trans h1,h2.kept hb⟩
theorem ExAt.ptr {w:World} {d:Nat} {v:VT} {g:Nat} (h:ExAt w d v g):PtrTo w d v g 2:=by
 obtain⟨pn,pi,h1,h2⟩:=h;refine⟨lt_of_block h1,_,h2,fun j hj=>?_⟩;rw[zc h1];have:j=0∨j=1∨j=2∨j=3∨j=4∨j=5:=by omega
 rcases this with rfl|rfl|rfl|rfl|rfl|rfl<;>rfl
theorem ExAt.cells {w:World} {d:Nat} {v:VT} {g:Nat} (h:ExAt w d v g):w.cell? ⟨g,0,none⟩=some (.int .i64 2)∧w.cell? ⟨g,1,none⟩=some (.string ⟨#[120]⟩)∧w.cell? ⟨g,8,none⟩=some (.slice none 0 0)∧w.cell? ⟨g,9,none⟩=some (.slice none 0 0):=by
 obtain⟨pn,pi,h1,h2⟩:=h;rw[zc h1,zc h1,zc h1,zc h1];exact⟨rfl,rfl,rfl,rfl⟩
theorem kids_2 (w:World):Calls Tryz.prog 113 #[.int .i64 2] w fun e w'=>e=.returned (.int .i64 0)∧w=w':=by
 go_in;go_wp2_with fail
 go_ret;exact⟨rfl,rfl⟩
theorem lexword_x (w:World):Calls Tryz.prog 148 #[.string ⟨#[120]⟩] w fun e w'=>e=.returned (.bool false)∧w=w':=by
 go_in;go_wp2_with fail
 go_ret;exact⟨rfl,rfl⟩
theorem field_x (w:World):Calls Tryz.prog 149 #[.string ⟨#[120]⟩] w (Gives (.bool true) w):=by
 have HN:=zh (fun w=>vname_any ⟨#[120]⟩ w);have hn:nmB (⟨#[120]⟩:ByteArray).data.toList=true:=by decide
 rw[hn]at HN;clear hn;go_in;go_wp2_with (go_at_call 168;refine(HN.out _).mono ?_;rintro e w' ⟨rfl,hb⟩)
 go_ret;exact⟨rfl,hb⟩
theorem named_x (d:Nat) (v:VT) (g:Nat) (w:World) (h:ExAt w d v g):Calls Tryz.prog 114 #[.pointer (some ⟨g,0,none⟩)] w (Gives (.bool true) w):=by
 obtain⟨c0,c1,c8,c9⟩:=h.cells;have HL:=zh (fun w=>lexword_x w);have HF:=zh (fun w=>field_x w);have HC:=zh (fun w' (hb:Below w.heap.size w w')=>(h.kept hb).cells);clear h;go_in;go_wp2_with fail
 refine(HL.out _).mono ?_;rintro e w' ⟨rfl,rfl⟩;go_wp2_with (go_at_call 149;refine(HF.out _).mono ?_;rintro e w' ⟨rfl,hb⟩;obtain⟨k0,k1,k8,k9⟩:=HC.out _ hb)
 go_ret;exact⟨rfl,hb⟩
theorem pright_x (d:Nat) (v:VT) (g:Nat) (hk:v.kind=0) (w:World) (h:ExAt w (d+1) v g):Calls Tryz.prog 79 #[.pointer (some ⟨g,0,none⟩),.int .i64 1] w (Gives (.bool (bareV v false false false false)) w):=by
 obtain⟨c0,c1,c8,c9⟩:=h.cells;have HK:=zh (fun w=>kids_2 w);have HN:=zh (named_x _ v g w h);have HC:=zh (fun w' (hb:Below w.heap.size w w')=>(h.kept hb).cells);have HZ:=zh (fun w' (hb:Below w.heap.size w w')=>nothing_any d v g 2 w' (h.kept hb).ptr hk);clear h hk;generalize bareV v false false false false=B at *;cases B <;>
 ·go_in;go_wp2_with fail
  refine(HK.out _).mono ?_;rintro e w' ⟨rfl,rfl⟩;go_wp2_with (go_at_call 114;refine(HN.out).mono ?_;rintro e w2 ⟨rfl,hb⟩;obtain⟨k0,k1,k8,k9⟩:=HC.out _ hb)
  go_wp2_with (go_at_call 116;refine(HZ.out _ hb).mono ?_;rintro e w3 ⟨rfl,rfl⟩)
  first
   | (go_ret;exact⟨rfl,hb⟩)
   | (go_loopw [68] (fun iv wr=>iv=.int .i64 0∧wr=w2) (fun _ _=>0)
      case atStart=>exact⟨rfl,rfl⟩
      case round =>
       obtain⟨rfl,rfl⟩:=hrel;go_wp2_with fail
       go_ret;exact⟨rfl,hb⟩)
end
section
open Go.RowKit
theorem ExAt.box {w:World} {d:Nat} {v:VT} {pn pi:Value} (h:ValAt w d v #[.int .i64 v.kind,.int .i64 v.num,.float .f64 v.flt,.string ⟨v.str.toArray⟩,pn,pi]):ExAt (w.alloc (.cells #[.int .i64 2,.string ⟨#[120]⟩,.int .i64 v.kind,.int .i64 v.num,.float .f64 v.flt,.string ⟨v.str.toArray⟩,pn,pi,.slice none 0 0,.slice none 0 0] 105)) d v w.heap.size :=
 ⟨pn,pi,heap_alloc_new w _,h.kept ((Below.refl _ _).alloc (Nat.le_refl _) _)⟩
theorem counted_x (d:Nat) (v:VT) (g:Nat) (w:World) (h:ExAt w d v g):Calls Tryz.prog 112 #[.pointer (some ⟨g,0,none⟩),.int .i64 0] w fun e w'=>e=.returned (.int .i64 1)∧w=w':=by
 obtain⟨c0,c1,c8,c9⟩:=h.cells;go_in;go_wp2_with fail
 go_loopw [13,1] (fun iv nv wr=>iv=.int .i64 0∧nv=.int .i64 1∧wr=w) (fun _ _ _=>0)
 case atStart=>exact⟨rfl,rfl,rfl⟩
 case round =>
  obtain⟨rfl,rfl,rfl⟩:=hrel;go_wp2_with fail
  go_ret;exact⟨rfl,rfl⟩
theorem pparts_x (d:Nat) (v:VT) (pn pi:Value) (w:World) (h:ValAt w d v #[.int .i64 v.kind,.int .i64 v.num,.float .f64 v.flt,.string ⟨v.str.toArray⟩,pn,pi]):Calls Tryz.prog 78 #[.agg #[.int .i64 2,.string ⟨#[120]⟩,.int .i64 v.kind,.int .i64 v.num,.float .f64 v.flt,.string ⟨v.str.toArray⟩,pn,pi,.slice none 0 0,.slice none 0 0]] w (Gives (.int .i64 1) w):=by
 have HC:=zh (counted_x d v _ _ (ExAt.box h));have hB:Below w.heap.size w (w.alloc (.cells #[.int .i64 2,.string ⟨#[120]⟩,.int .i64 v.kind,.int .i64 v.num,.float .f64 v.flt,.string ⟨v.str.toArray⟩,pn,pi,.slice none 0 0,.slice none 0 0] 105)):=(Below.refl _ _).alloc (Nat.le_refl _) _;clear h;go_in;go_wp2_with fail
 refine(HC.out).mono ?_;rintro e w2 ⟨rfl,rfl⟩;go_wp2_with fail
 go_ret;exact⟨rfl,hB⟩
theorem pRight_x (d:Nat) (v:VT) (pn pi:Value) (hk:v.kind=0) (w:World) (h:ValAt w (d+1) v #[.int .i64 v.kind,.int .i64 v.num,.float .f64 v.flt,.string ⟨v.str.toArray⟩,pn,pi]):Calls Tryz.prog 48 #[.agg #[.int .i64 2,.string ⟨#[120]⟩,.int .i64 v.kind,.int .i64 v.num,.float .f64 v.flt,.string ⟨v.str.toArray⟩,pn,pi,.slice none 0 0,.slice none 0 0]] w (Gives (.bool (bareV v false false false false)) w):=by
 have hx:=ExAt.box h;have hB:Below w.heap.size w (w.alloc (.cells #[.int .i64 2,.string ⟨#[120]⟩,.int .i64 v.kind,.int .i64 v.num,.float .f64 v.flt,.string ⟨v.str.toArray⟩,pn,pi,.slice none 0 0,.slice none 0 0] 105)):=(Below.refl _ _).alloc (Nat.le_refl _) _;have hnew:(w.alloc (.cells #[.int .i64 2,.string ⟨#[120]⟩,.int .i64 v.kind,.int .i64 v.num,.float .f64 v.flt,.string ⟨v.str.toArray⟩,pn,pi,.slice none 0 0,.slice none 0 0] 105)).heap[w.heap.size]?=some (.cells #[.int .i64 2,.string ⟨#[120]⟩,.int .i64 v.kind,.int .i64 v.num,.float .f64 v.flt,.string ⟨v.str.toArray⟩,pn,pi,.slice none 0 0,.slice none 0 0] 105 (0,0)):=heap_alloc_new w _;have HP:=zh (pparts_x _ v pn pi _ (h.kept hB));have HR:=zh (fun w' hb=>pright_x d v w.heap.size hk w' (hx.kept hb));clear hx h hk;go_in;go_wp2_with (first
  | (go_at_call 78;refine(HP.out).mono ?_;rintro e w2 ⟨rfl,hb2⟩)
  | (go_at_call 79;refine(HR.out _ hb2).mono ?_;rintro e w3 ⟨rfl,hb3⟩))
 go_ret;exact⟨rfl,hB.trans ((hb2.mono hB.size).trans (hb3.mono (Nat.le_trans hB.size hb2.size)))⟩
theorem wants_2 (w:World):Calls Tryz.prog 151 #[.int .i64 2] w fun e w'=>e=.returned (.int .i64 0)∧w=w':=by
 go_in;go_wp2_with fail
 go_ret;exact⟨rfl,rfl⟩
theorem rword_x (w:World):Calls Tryz.prog 155 #[.string ⟨#[120]⟩] w fun e w'=>e=.returned (.bool false)∧w=w':=by
 go_in;go_wp2_with fail
 go_ret;exact⟨rfl,rfl⟩
theorem rnone_any (d:Nat) (v:VT) (cs:Array Value) (hk:v.kind=0) (w:World) (h:ValAt w d v cs):Calls Tryz.prog 153 #[.agg cs] w (Gives (.bool (bareV v false false false false)) w):=by
 obtain⟨pn,p,cap,rfl⟩:=h.six;obtain⟨pp,pc,rfl⟩:∃ p c,pn=.slice p v.names.length c:=by
  cases d with
  | zero=>exact h.elim
  | succ d =>
   obtain⟨a,b,h1,_,_,_,_,h6,_⟩:=h;obtain⟨p,c,hp⟩:=h6.lenOf;simp only[Array.mk.injEq,List.cons.injEq]at h1;exact⟨p,c,h1.2.2.2.2.1.trans hp⟩
 have hB:Below w.heap.size w (w.alloc (.cells #[.int .i64 v.kind,.int .i64 v.num,.float .f64 v.flt,.string ⟨v.str.toArray⟩,.slice pp v.names.length pc,.slice p v.items.length cap] 28)):=(Below.refl _ _).alloc (Nat.le_refl _) _;have hs:=rsame_any v.flt 0;rw[show canon 0=0 from rfl]at hs;have hz:zeroB v.flt=decide (canon v.flt=0):=rfl;have HS:=zh hs;clear hs;have HB:=bareV.eq_def v false false false false;have hnm:v.names.isEmpty=decide (v.names.length=0):=by cases v.names<;>simp
 have hit:v.items.isEmpty=decide (v.items.length=0):=by cases v.items<;>simp
 have hst:v.str.isEmpty=(⟨v.str.toArray⟩:ByteArray).toList.isEmpty:=by rw[ByteArray.toList_eq]
 rw[hnm,hit,hst,hz]at HB;clear h hz;rw[hk]at hB ⊢
 clear hk;generalize v.names.length=N at *;generalize v.items.length=M at *;generalize (⟨v.str.toArray⟩:ByteArray)=S at *;generalize v.num=K at *;generalize decide (canon v.flt=0)=Z at *;clear hnm hit hst;by_cases c1:K=0
 ·have t1:(K==0)=true:=by rw[c1];rfl
  rw[show decide (K=0)=true from decide_eq_true c1]at HB;clear c1;cases Z
  ·have HB:=zh HB;go_in;go_wp2_with (go_at_call 184;refine(HS.out _).mono ?_;rintro e w' ⟨rfl,rfl⟩)
   go_ret;exact⟨ret_val (by rw[HB.out];rfl),hB⟩
  ·by_cases c3:S.toList=[]
   ·have t3:S.toList.isEmpty=true:=by rw[c3];rfl
    rw[t3]at HB;by_cases c4:N=0
    ·have t4:((N:Int)==0)=true:=by rw[c4];rfl
     rw[show decide (N=0)=true from decide_eq_true c4]at HB;by_cases c5:M=0
     ·have t5:((M:Int)==0)=true:=by rw[c5];rfl
      rw[show decide (M=0)=true from decide_eq_true c5]at HB;have HB:=zh HB;clear c4 c5;go_in;go_wp2_with (go_at_call 184;refine(HS.out _).mono ?_;rintro e w' ⟨rfl,rfl⟩)
      go_ret;exact⟨ret_val (by rw[HB.out];rfl),hB⟩
     ·have t5:((M:Int)==0)=false:=by rw[beq_eq_false_iff_ne];omega
      rw[show decide (M=0)=false from decide_eq_false c5]at HB;have HB:=zh HB;clear c4;go_in;go_wp2_with (go_at_call 184;refine(HS.out _).mono ?_;rintro e w' ⟨rfl,rfl⟩)
      go_ret;exact⟨ret_val (by rw[HB.out];rfl),hB⟩
    ·have t4:((N:Int)==0)=false:=by rw[beq_eq_false_iff_ne];omega
     rw[show decide (N=0)=false from decide_eq_false c4]at HB;have HB:=zh HB;go_in;go_wp2_with (go_at_call 184;refine(HS.out _).mono ?_;rintro e w' ⟨rfl,rfl⟩)
     go_ret;exact⟨ret_val (by rw[HB.out];rfl),hB⟩
   ·have t3:S.toList.isEmpty=false:=by cases hh:S.toList with|nil=>exact absurd hh c3|cons a b=>rfl
    rw[t3]at HB;have HB:=zh HB;go_in;go_wp2_with (go_at_call 184;refine(HS.out _).mono ?_;rintro e w' ⟨rfl,rfl⟩)
    go_ret;exact⟨ret_val (by rw[HB.out];rfl),hB⟩
 ·have t1:(K==0)=false:=beq_eq_false_iff_ne.2 c1;rw[show decide (K=0)=false from decide_eq_false c1]at HB;have HB:=zh HB;go_in;go_wp2_with (go_at_call 184;refine(HS.out _).mono ?_;rintro e w' ⟨rfl,rfl⟩)
  go_ret;exact⟨ret_val (by rw[HB.out];rfl),hB⟩
theorem rcount8_x (d:Nat) (v:VT) (pn pi:Value) (w:World) (h:ValAt w d v #[.int .i64 v.kind,.int .i64 v.num,.float .f64 v.flt,.string ⟨v.str.toArray⟩,pn,pi]):Calls Tryz.prog 150 #[.agg #[.int .i64 2,.string ⟨#[120]⟩,.int .i64 v.kind,.int .i64 v.num,.float .f64 v.flt,.string ⟨v.str.toArray⟩,pn,pi,.slice none 0 0,.slice none 0 0],.int .i64 0] w (Gives (.int .i64 1) w):=by
 have hB:Below w.heap.size w (w.alloc (.cells #[.int .i64 2,.string ⟨#[120]⟩,.int .i64 v.kind,.int .i64 v.num,.float .f64 v.flt,.string ⟨v.str.toArray⟩,pn,pi,.slice none 0 0,.slice none 0 0] 105)):=(Below.refl _ _).alloc (Nat.le_refl _) _;have hx:=ExAt.box h;generalize hW:w.alloc (.cells #[.int .i64 2,.string ⟨#[120]⟩,.int .i64 v.kind,.int .i64 v.num,.float .f64 v.flt,.string ⟨v.str.toArray⟩,pn,pi,.slice none 0 0,.slice none 0 0] 105)=W0 at *;obtain⟨c0,c1,c8,c9⟩:=hx.cells;clear h hx;subst hW;go_in;go_wp2_with fail
 generalize w.alloc (.cells #[.int .i64 2,.string ⟨#[120]⟩,.int .i64 v.kind,.int .i64 v.num,.float .f64 v.flt,.string ⟨v.str.toArray⟩,pn,pi,.slice none 0 0,.slice none 0 0] 105)=W0 at *;go_loopw [5,1] (fun iv nv wr=>iv=.int .i64 0∧nv=.int .i64 1∧wr=W0) (fun _ _ _=>0)
 case atStart=>exact⟨rfl,rfl,rfl⟩
 case round =>
  obtain⟨rfl,rfl,rfl⟩:=hrel;go_wp2_with fail
  go_ret;exact⟨rfl,hB⟩
theorem rparts8_x (d:Nat) (v:VT) (pn pi:Value) (w:World) (h:ValAt w d v #[.int .i64 v.kind,.int .i64 v.num,.float .f64 v.flt,.string ⟨v.str.toArray⟩,pn,pi]):Calls Tryz.prog 117 #[.agg #[.int .i64 2,.string ⟨#[120]⟩,.int .i64 v.kind,.int .i64 v.num,.float .f64 v.flt,.string ⟨v.str.toArray⟩,pn,pi,.slice none 0 0,.slice none 0 0]] w (Gives (.int .i64 1) w):=by
 have hB:Below w.heap.size w (w.alloc (.cells #[.int .i64 2,.string ⟨#[120]⟩,.int .i64 v.kind,.int .i64 v.num,.float .f64 v.flt,.string ⟨v.str.toArray⟩,pn,pi,.slice none 0 0,.slice none 0 0] 105)):=(Below.refl _ _).alloc (Nat.le_refl _) _;have HC:=zh (rcount8_x d v pn pi _ (h.kept hB));clear h;go_in;go_wp2_with fail
 refine(HC.out).mono ?_;rintro e w2 ⟨rfl,hb⟩;go_wp2_with fail
 go_ret;exact⟨rfl,hB.trans (hb.mono hB.size)⟩
theorem rright8_x (d:Nat) (v:VT) (pn pi:Value) (hk:v.kind=0) (w:World) (h:ValAt w d v #[.int .i64 v.kind,.int .i64 v.num,.float .f64 v.flt,.string ⟨v.str.toArray⟩,pn,pi]):Calls Tryz.prog 118 #[.agg #[.int .i64 2,.string ⟨#[120]⟩,.int .i64 v.kind,.int .i64 v.num,.float .f64 v.flt,.string ⟨v.str.toArray⟩,pn,pi,.slice none 0 0,.slice none 0 0],.int .i64 12] w (Gives (.bool (bareV v false false false false)) w):=by
 have hB:Below w.heap.size w (w.alloc (.cells #[.int .i64 2,.string ⟨#[120]⟩,.int .i64 v.kind,.int .i64 v.num,.float .f64 v.flt,.string ⟨v.str.toArray⟩,pn,pi,.slice none 0 0,.slice none 0 0] 105)):=(Below.refl _ _).alloc (Nat.le_refl _) _;have hnew:(w.alloc (.cells #[.int .i64 2,.string ⟨#[120]⟩,.int .i64 v.kind,.int .i64 v.num,.float .f64 v.flt,.string ⟨v.str.toArray⟩,pn,pi,.slice none 0 0,.slice none 0 0] 105)).heap[w.heap.size]?=some (.cells #[.int .i64 2,.string ⟨#[120]⟩,.int .i64 v.kind,.int .i64 v.num,.float .f64 v.flt,.string ⟨v.str.toArray⟩,pn,pi,.slice none 0 0,.slice none 0 0] 105 (0,0)):=heap_alloc_new w _;have hx:=ExAt.box h;have hv:=h.kept hB;generalize hW:w.alloc (.cells #[.int .i64 2,.string ⟨#[120]⟩,.int .i64 v.kind,.int .i64 v.num,.float .f64 v.flt,.string ⟨v.str.toArray⟩,pn,pi,.slice none 0 0,.slice none 0 0] 105)=W0 at *;have HN:=zh (rnone_any d v _ hk _ hv);obtain⟨c0,c1,c8,c9⟩:=hx.cells;have HX:=zh (fun w' (hb:Below W0.heap.size W0 w')=>(hx.kept hb).cells);have HWt:=zh (fun w=>wants_2 w);have HWd:=zh (fun w=>rword_x w);have HNm:=zh (fun w=>rname4_any ⟨#[120]⟩ w);have hn:nmB (⟨#[120]⟩:ByteArray).data.toList=true:=by decide
 rw[hn]at HNm;clear h hx hv hk hn;generalize bareV v false false false false=B at *;cases B <;>
 ·subst hW;go_in;go_wp2_with fail
  refine(HWt.out _).mono ?_;rintro e w' ⟨rfl,rfl⟩;go_wp2_with (go_at_call 153;refine(HN.out).mono ?_;rintro e w2 ⟨rfl,hb⟩;obtain⟨k0,k1,k8,k9⟩:=HX.out _ hb)
  first
   | (go_ret;exact⟨rfl,hB.trans (hb.mono hB.size)⟩)
   | (go_wp2_with (first|(go_at_call 154;refine(HNm.out _).mono ?_;rintro e w' ⟨rfl,rfl⟩)|(go_at_call 155;refine(HWd.out _).mono ?_;rintro e w' ⟨rfl,rfl⟩))
      go_loopw [6] (fun iv wr=>iv=.int .i64 0∧wr=w2) (fun _ _=>0)
      case atStart=>exact⟨rfl,rfl⟩
      case round =>
       obtain⟨rfl,rfl⟩:=hrel;go_wp2_with fail
       go_loopw [7] (fun iv w4=>iv=.int .i64 0∧w4=wr) (fun _ _=>0)
       case atStart=>exact⟨rfl,rfl⟩
       case round =>
        obtain⟨rfl,rfl⟩:=hrel;go_wp2_with fail
        go_ret;exact⟨rfl,hB.trans (hb.mono hB.size)⟩)
theorem rRight8_x (d:Nat) (v:VT) (pn pi:Value) (hk:v.kind=0) (w:World) (h:ValAt w d v #[.int .i64 v.kind,.int .i64 v.num,.float .f64 v.flt,.string ⟨v.str.toArray⟩,pn,pi]):Calls Tryz.prog 80 #[.agg #[.int .i64 2,.string ⟨#[120]⟩,.int .i64 v.kind,.int .i64 v.num,.float .f64 v.flt,.string ⟨v.str.toArray⟩,pn,pi,.slice none 0 0,.slice none 0 0]] w (Gives (.bool (bareV v false false false false)) w):=by
 have hB:Below w.heap.size w (w.alloc (.cells #[.int .i64 2,.string ⟨#[120]⟩,.int .i64 v.kind,.int .i64 v.num,.float .f64 v.flt,.string ⟨v.str.toArray⟩,pn,pi,.slice none 0 0,.slice none 0 0] 105)):=(Below.refl _ _).alloc (Nat.le_refl _) _;have hnew:(w.alloc (.cells #[.int .i64 2,.string ⟨#[120]⟩,.int .i64 v.kind,.int .i64 v.num,.float .f64 v.flt,.string ⟨v.str.toArray⟩,pn,pi,.slice none 0 0,.slice none 0 0] 105)).heap[w.heap.size]?=some (.cells #[.int .i64 2,.string ⟨#[120]⟩,.int .i64 v.kind,.int .i64 v.num,.float .f64 v.flt,.string ⟨v.str.toArray⟩,pn,pi,.slice none 0 0,.slice none 0 0] 105 (0,0)):=heap_alloc_new w _;have HP:=zh (rparts8_x _ v pn pi _ (h.kept hB));have HR:=zh (fun w' hb=>rright8_x d v pn pi hk w' ((h.kept hB).kept hb));clear h hk;generalize hW:w.alloc (.cells #[.int .i64 2,.string ⟨#[120]⟩,.int .i64 v.kind,.int .i64 v.num,.float .f64 v.flt,.string ⟨v.str.toArray⟩,pn,pi,.slice none 0 0,.slice none 0 0] 105)=W0 at *;have HG:=zh (fun w' (hb:Below W0.heap.size W0 w') j=>(show w'.cell? ⟨w.heap.size,j,none⟩=(#[.int .i64 2,.string ⟨#[120]⟩,.int .i64 v.kind,.int .i64 v.num,.float .f64 v.flt,.string ⟨v.str.toArray⟩,pn,pi,.slice none 0 0,.slice none 0 0]:Array Value)[j]? from by rw[zc ((hb.block _ (lt_of_block hnew)).trans hnew)]));subst hW;go_in;go_wp2_with (first
  | (go_at_call 117;refine(HP.out).mono ?_;rintro e w2 ⟨rfl,hb2⟩;have y0:=HG.out _ hb2 0;have y1:=HG.out _ hb2 1;have y2:=HG.out _ hb2 2;have y3:=HG.out _ hb2 3;have y4:=HG.out _ hb2 4;have y5:=HG.out _ hb2 5;have y6:=HG.out _ hb2 6;have y7:=HG.out _ hb2 7;have y8:=HG.out _ hb2 8;have y9:=HG.out _ hb2 9;simp at y0 y1 y2 y3 y4 y5 y6 y7 y8 y9)
  | (go_at_call 118;refine(HR.out _ hb2).mono ?_;rintro e w3 ⟨rfl,hb3⟩))
 go_ret;exact⟨rfl,hB.trans ((hb2.mono hB.size).trans (hb3.mono (Nat.le_trans hB.size hb2.size)))⟩
end
section
open Go.RowKit
theorem caught_up (p:Addr) (x y:Int) (w:World) (hc:w.cell? p=some (.int .i64 y)) (hz:w.frozen? p=false) :
  CallsD Tryz.prog 21 #[.pointer (some p)] (.panicking [{ v:=.iface 33 (.int .i64 x),recovered:=false }]) w fun e u' w' =>
   e=.returned (.tuple #[])∧u'=.panicking [{ v:=.iface 33 (.int .i64 x),recovered:=true }]∧w'=w.setCell p (.int .i64 x):=by
 have hta:=ta_errno x;refine callsD_of_wpS Tryz.func21 rfl fun c₀ cs hu=>?_
 apply wpS_seq
 apply wpS_region
 simp[wpOpsS,go_sem,recoverD,hu,hta,Tryz.ntmps21,Exit.thenS];apply wpS_seq
 apply wpS_region
 simp[wpOpsS,go_sem,Exit.thenS];refine wpS_cond (t:=true) (by simp[Act.eval,Array.replicate]) ?_;simp only[if_true];apply wpS_region
 simp[wpOpsS,go_sem,hc,hz,bodyPostS,results,Tryz.results21]
theorem caught_idle (p:Addr) (w:World) :
  CallsD Tryz.prog 21 #[.pointer (some p)] .returning w fun e u' w'=>e=.returned (.tuple #[])∧u'=.returning∧w'=w:=by
 have hta:=ta_nil;refine callsD_of_wpS Tryz.func21 rfl fun c₀ cs hu=>?_
 apply wpS_seq
 apply wpS_region
 simp[wpOpsS,go_sem,recoverD,hu,hta,Tryz.ntmps21,Exit.thenS];apply wpS_seq
 apply wpS_region
 simp[wpOpsS,go_sem,Exit.thenS];refine wpS_cond (t:=false) (by simp[Act.eval,Array.replicate]) ?_;simp only[Bool.false_eq_true,if_false];refine wpS_of_wp (wp_skip ?_);cases c₀
 simp_all [bodyPostS,results,Tryz.results21]
end
section
open Go.RowKit
theorem nan_int (n:Int) (w:World):Calls Tryz.prog 142 #[.int .i64 n] w fun e w'=>e=.returned (.bool false)∧w=w':=by
 have t0:(n != n)=false:=by simp
 go_in;go_wp2_with fail
 go_ret;exact⟨rfl,rfl⟩
theorem cmpQ_int (n m:Int) (w:World):Calls Tryz.prog 108 #[.int .i64 n,.int .i64 m] w fun e w'=>e=.returned (.int .i64 (sgnI n m))∧w=w':=by
 have hs:=sgnI.eq_def n m;have HN:=zh (fun n w=>nan_int n w);by_cases h:n<m
 ·have t1:decide (n<m)=true:=decide_eq_true h;rw[if_pos h]at hs;have HS:=zh hs;clear hs;go_in;go_wp2_with fail
  refine(HN.out _ _).mono ?_;rintro e w1 ⟨rfl,rfl⟩;go_wp2_with fail
  refine(HN.out _ _).mono ?_;rintro e w2 ⟨rfl,rfl⟩;go_wp2_with fail
  go_ret;exact⟨ret_val (by rw[HS.out];rfl),rfl⟩
 ·have t1:decide (n<m)=false:=decide_eq_false h;rw[if_neg h]at hs;by_cases h2:m<n
  ·have t2:decide (m<n)=true:=decide_eq_true h2;rw[if_pos h2]at hs;have HS:=zh hs;clear hs;go_in;go_wp2_with fail
   refine(HN.out _ _).mono ?_;rintro e w1 ⟨rfl,rfl⟩;go_wp2_with fail
   refine(HN.out _ _).mono ?_;rintro e w2 ⟨rfl,rfl⟩;go_wp2_with fail
   go_ret;exact⟨ret_val (by rw[HS.out];rfl),rfl⟩
  ·have t2:decide (m<n)=false:=decide_eq_false h2;rw[if_neg h2]at hs;have HS:=zh hs;clear hs;go_in;go_wp2_with fail
   refine(HN.out _ _).mono ?_;rintro e w1 ⟨rfl,rfl⟩;go_wp2_with fail
   refine(HN.out _ _).mono ?_;rintro e w2 ⟨rfl,rfl⟩;go_wp2_with fail
   go_ret;exact⟨ret_val (by rw[HS.out];rfl),rfl⟩
theorem nan_int64 (n:Int) (w:World):Calls Tryz.prog 179 #[.int .i64 n] w fun e w'=>e=.returned (.bool false)∧w=w':=by
 have t0:(n != n)=false:=by simp
 go_in;go_wp2_with fail
 go_ret;exact⟨rfl,rfl⟩
theorem cmpQ_int64 (n m:Int) (w:World):Calls Tryz.prog 143 #[.int .i64 n,.int .i64 m] w fun e w'=>e=.returned (.int .i64 (sgnI n m))∧w=w':=by
 have hs:=sgnI.eq_def n m;have HN:=zh (fun n w=>nan_int64 n w);by_cases h:n<m
 ·have t1:decide (n<m)=true:=decide_eq_true h;rw[if_pos h]at hs;have HS:=zh hs;clear hs;go_in;go_wp2_with fail
  refine(HN.out _ _).mono ?_;rintro e w1 ⟨rfl,rfl⟩;go_wp2_with fail
  refine(HN.out _ _).mono ?_;rintro e w2 ⟨rfl,rfl⟩;go_wp2_with fail
  go_ret;exact⟨ret_val (by rw[HS.out];rfl),rfl⟩
 ·have t1:decide (n<m)=false:=decide_eq_false h;rw[if_neg h]at hs;by_cases h2:m<n
  ·have t2:decide (m<n)=true:=decide_eq_true h2;rw[if_pos h2]at hs;have HS:=zh hs;clear hs;go_in;go_wp2_with fail
   refine(HN.out _ _).mono ?_;rintro e w1 ⟨rfl,rfl⟩;go_wp2_with fail
   refine(HN.out _ _).mono ?_;rintro e w2 ⟨rfl,rfl⟩;go_wp2_with fail
   go_ret;exact⟨ret_val (by rw[HS.out];rfl),rfl⟩
  ·have t2:decide (m<n)=false:=decide_eq_false h2;rw[if_neg h2]at hs;have HS:=zh hs;clear hs;go_in;go_wp2_with fail
   refine(HN.out _ _).mono ?_;rintro e w1 ⟨rfl,rfl⟩;go_wp2_with fail
   refine(HN.out _ _).mono ?_;rintro e w2 ⟨rfl,rfl⟩;go_wp2_with fail
   go_ret;exact⟨ret_val (by rw[HS.out];rfl),rfl⟩
theorem nan_string (s:ByteArray) (w:World):Calls Tryz.prog 193 #[.string s] w fun e w'=>e=.returned (.bool false)∧w=w':=by
 have t0:(s.toList != s.toList)=false:=by simp
 go_in;go_wp2_with fail
 go_ret;exact⟨rfl,rfl⟩
theorem cmp_string (s t:ByteArray) (w:World):Calls Tryz.prog 182 #[.string s,.string t] w fun e w'=>e=.returned (.int .i64 (txtO s.toList t.toList))∧w=w':=by
 have hs:=txtO.eq_def s.toList t.toList;have HN:=zh (fun n w=>nan_string n w);cases t1:Op.bytesLess s.toList t.toList
 ·rw[t1,if_neg (by decide)]at hs;by_cases h2:s.toList=t.toList
  ·rw[if_pos h2]at hs;have t2:(s.toList==t.toList)=true:=beq_iff_eq.2 h2;have HS:=zh hs;clear hs h2;go_in;go_wp2_with fail
   refine(HN.out _ _).mono ?_;rintro e w1 ⟨rfl,rfl⟩;go_wp2_with fail
   refine(HN.out _ _).mono ?_;rintro e w2 ⟨rfl,rfl⟩;go_wp2_with fail
   go_ret;exact⟨ret_val (by rw[HS.out];rfl),rfl⟩
  ·rw[if_neg h2]at hs;have t2:(s.toList==t.toList)=false:=beq_eq_false_iff_ne.2 h2;have HS:=zh hs;clear hs h2;go_in;go_wp2_with fail
   refine(HN.out _ _).mono ?_;rintro e w1 ⟨rfl,rfl⟩;go_wp2_with fail
   refine(HN.out _ _).mono ?_;rintro e w2 ⟨rfl,rfl⟩;go_wp2_with fail
   go_ret;exact⟨ret_val (by rw[HS.out];rfl),rfl⟩
 ·rw[t1,if_pos rfl]at hs;have HS:=zh hs;clear hs;go_in;go_wp2_with fail
  refine(HN.out _ _).mono ?_;rintro e w1 ⟨rfl,rfl⟩;go_wp2_with fail
  refine(HN.out _ _).mono ?_;rintro e w2 ⟨rfl,rfl⟩;go_wp2_with fail
  go_ret;exact⟨ret_val (by rw[HS.out];rfl),rfl⟩
theorem cmpB_txt:∀ a b:List UInt8,Lib.compareBytes a b=txtO a b
 | [],[]=>rfl
 | [],_::_=>by simp[Lib.compareBytes,txtO,Op.bytesLess]
 | _::_,[]=>by simp[Lib.compareBytes,txtO,Op.bytesLess]
 | x::a,y::b=>by
  have ih:=cmpB_txt a b;rw[Lib.compareBytes,ih];unfold txtO;rw[Op.bytesLess];by_cases h1:x<y
  ·simp[h1]
  ·by_cases h2:y<x
   ·have:x≠y:=by rintro rfl;exact h1 h2
    simp[h1,h2,this]
   ·have:x=y:=by
     apply UInt8.toNat_inj.1
     have a1:¬ x.toNat<y.toNat:=fun h=>h1 (UInt8.lt_iff_toNat_lt.2 h)
     have a2:¬ y.toNat<x.toNat:=fun h=>h2 (UInt8.lt_iff_toNat_lt.2 h)
     omega
    subst this;simp[h1]
theorem bcompare_any (s t:ByteArray) (w:World):Calls Tryz.prog 181 #[.string s,.string t] w fun e w'=>e=.returned (.int .i64 (txtO s.toList t.toList))∧w=w':=by
 have he:=cmpB_txt s.data.toList t.data.toList;rw[←ByteArray.toList_eq,←ByteArray.toList_eq]at he;go_in;go_wp2
 rw[run_callFunc_extern Tryz.func192 (by kernel_rfl) (by kernel_rfl) (by kernel_rfl) (e:=Extern.BytealgCompare.compare) (by kernel_rfl),Lib.run_compareString];simp only[Result.andThen];rw[Oper.upon_value];rw[←ByteArray.toList_eq,←ByteArray.toList_eq,he];go_wp2
 go_ret;exact⟨rfl,rfl⟩
theorem scompare_any (s t:ByteArray) (w:World):Calls Tryz.prog 145 #[.string s,.string t] w fun e w'=>e=.returned (.int .i64 (txtO s.toList t.toList))∧w=w':=by
 have HB:=zh (fun w=>bcompare_any s t w);go_in;go_wp2_with fail
 refine(HB.out _).mono ?_;rintro e w1 ⟨rfl,rfl⟩;go_wp2_with fail
 go_ret;exact⟨rfl,rfl⟩
theorem srows_any (l m:List (List UInt8)) (u v:Value) (w:World) (hu:Strs w l u) (hv:Strs w m v):Calls Tryz.prog 146 #[u,v] w fun e w'=>e=.returned (.int .i64 (rowsO l m))∧w=w':=by
 obtain⟨p,c,rfl,hln,hcu⟩:=hu.row;obtain⟨q,d,rfl,hlm,hcv⟩:=hv.row;have HT:=zh (fun(a b:List UInt8) w=>(show Calls Tryz.prog 182 #[.string ⟨a.toArray⟩,.string ⟨b.toArray⟩] w (fun e w'=>e=.returned (.int .i64 (txtO a b))∧w=w') from by
  have:=cmp_string ⟨a.toArray⟩ ⟨b.toArray⟩ w;rwa [ByteArray.toList_eq,ByteArray.toList_eq]at this))
 have HCu:=zh hcu;have HCv:=zh hcv;have HStep:=zh (fun i (h1:i<l.length) h2=>rowsO_step (a:=l) (b:=m) (i:=i) h1 h2);have HEnd:=zh (fun i (h1:i≤l.length) h2 h3=>rowsO_end (a:=l) (b:=m) (i:=i) h1 h2 h3);clear hu hv hcu hcv;generalize l.length=N at *;generalize m.length=M at *;have h0:Hid (rowsO l m=rowsO (l.drop 0) (m.drop 0)):=by show _=_;rw[List.drop_zero,List.drop_zero]
 generalize rowsO l m=R at *;go_in;go_wp2_with fail
 go_loopw [11] (fun iv wr=>∃ i:Nat,iv=.int .i64 (i:Int)∧i≤N∧i≤M∧Hid (R=rowsO (l.drop i) (m.drop i))∧w=wr) (fun iv _=>N - (intOf iv).toNat)
 case atStart=>exact⟨0,rfl,Nat.zero_le _,Nat.zero_le _,h0,rfl⟩
 case round =>
  clear h0;obtain⟨i,rfl,hi,hj,hR,rfl⟩:=hrel;by_cases hlt:i<N
  ·have t0:decide ((i:Int)<(N:Int))=true:=by simp;omega
   obtain⟨g,off,rfl,c1⟩:=HCu.out i hlt;have b1:(0:Int)≤(i:Int):=by omega
   have b2:(i:Int)<(N:Int):=by omega
   by_cases hlm:i<M
   ·have t1:decide ((M:Int)≤(i:Int))=false:=by simp;omega
    obtain⟨g',off',rfl,c2⟩:=HCv.out i hlm;have hst:=HStep.out i hlt hlm;have b3:(i:Int)<(M:Int):=by omega
    have HT2:=zh (fun w=>HT.out (l.getD i []) (m.getD i []) w);generalize txtO (l.getD i []) (m.getD i [])=T at *;generalize (⟨(l.getD i []).toArray⟩:ByteArray)=s at *;generalize (⟨(m.getD i []).toArray⟩:ByteArray)=s' at *;by_cases hT:T=0
    ·rw[if_pos hT]at hst;subst hT;have HST:=zh hst;clear hst;go_wp2_with fail
     refine(HT2.out _).mono ?_;rintro e w1 ⟨rfl,rfl⟩;go_wp2_with fail
     go_roundw
     case rel=>exact⟨i+1,by go_num,by omega,by omega,by show _=_;rw[hR.out,HST.out],by first|rfl|trivial⟩
     case measure=>simp[intOf];omega
    ·rw[if_neg hT]at hst;have t2:(T != 0)=true:=by rw[bne_iff_ne];exact hT
     have HST:=zh hst;clear hst hT;go_wp2_with fail
     refine(HT2.out _).mono ?_;rintro e w1 ⟨rfl,rfl⟩;go_wp2_with fail
     go_ret;exact⟨ret_val (by rw[hR.out,HST.out];rfl),rfl⟩
   ·have t1:decide ((M:Int)≤(i:Int))=true:=by simp;omega
    have HE:=zh (HEnd.out i hi hj (.inr (by omega)));have HS:=zh (show sgnI (N:Int) (M:Int)=1 from by unfold sgnI;rw[if_neg (by omega),if_pos (by omega)]);go_wp2_with fail
    go_ret;exact⟨ret_val (by rw[hR.out,HE.out,HS.out];rfl),rfl⟩
  ·have t0:decide ((i:Int)<(N:Int))=false:=by simp;omega
   have HE:=zh (HEnd.out i hi hj (.inl (by omega)));by_cases hlm:N<M
   ·have t1:decide ((N:Int)<(M:Int))=true:=by simp;omega
    have HS:=zh (show sgnI (N:Int) (M:Int) = -1 from by unfold sgnI;rw[if_pos (by omega)]);go_wp2_with fail
    go_ret;exact⟨ret_val (by rw[hR.out,HE.out,HS.out];rfl),rfl⟩
   ·have t1:decide ((N:Int)<(M:Int))=false:=by simp;omega
    have HS:=zh (show sgnI (N:Int) (M:Int)=0 from by unfold sgnI;rw[if_neg (by omega),if_neg (by omega)]);go_wp2_with fail
    go_ret;exact⟨ret_val (by rw[hR.out,HE.out,HS.out];rfl),rfl⟩
theorem or3_any (a b c:Int) (g:Nat) (w:World) (h0:w.cell? ⟨g,0,none⟩=some (.int .i64 a)) (h1:w.cell? ⟨g,1,none⟩=some (.int .i64 b)) (h2:w.cell? ⟨g,2,none⟩=some (.int .i64 c)) :
  Calls Tryz.prog 147 #[.slice (some ⟨g,0,none⟩) 3 3] w fun e w'=>e=.returned (.int .i64 (if a=0 then(if b=0 then c else b) else a))∧w=w':=by
 generalize hr:(if a=0 then(if b=0 then c else b) else a)=r
 have HR:=zh hr;clear hr;by_cases ha:a=0
 ·subst ha;by_cases hb:b=0
  ·subst hb;have HR2:=zh (show c=r from by rw[←HR.out,if_pos rfl,if_pos rfl]);by_cases hc:c=0
   ·subst hc;go_in;go_wp2_with fail
    refine wp_loop_rounds 4 ?_;rw[rounds_succ];go_wp2_with fail
    rw[rounds_succ];go_wp2_with fail
    rw[rounds_succ];go_wp2_with fail
    rw[rounds_succ];go_wp2_with fail
    go_ret;exact⟨ret_val (by rw[←HR2.out];rfl),rfl⟩
   ·have tc:(c != 0)=true:=by rw[bne_iff_ne];exact hc
    clear hc;go_in;go_wp2_with fail
    refine wp_loop_rounds 3 ?_;rw[rounds_succ];go_wp2_with fail
    rw[rounds_succ];go_wp2_with fail
    rw[rounds_succ];go_wp2_with fail
    go_ret;exact⟨ret_val (by rw[←HR2.out];rfl),rfl⟩
  ·have tb:(b != 0)=true:=by rw[bne_iff_ne];exact hb
   have HR2:=zh (show b=r from by rw[←HR.out,if_pos rfl,if_neg hb]);clear hb;go_in;go_wp2_with fail
   refine wp_loop_rounds 2 ?_;rw[rounds_succ];go_wp2_with fail
   rw[rounds_succ];go_wp2_with fail
   go_ret;exact⟨ret_val (by rw[←HR2.out];rfl),rfl⟩
 ·have ta:(a != 0)=true:=by rw[bne_iff_ne];exact ha
  have HR2:=zh (show a=r from by rw[←HR.out,if_neg ha]);clear ha;go_in;go_wp2_with fail
  refine wp_loop_rounds 1 ?_;rw[rounds_succ];go_wp2_with fail
  go_ret;exact⟨ret_val (by rw[←HR2.out];rfl),rfl⟩
theorem leaf_yes (k:Int) (h:1≤k∧k≤4) (w:World):Calls Tryz.prog 110 #[.int .i64 k] w fun e w'=>e=.returned (.bool true)∧w=w':=by
 have t1:decide ((1:Int)≤k)=true:=decide_eq_true h.1;have t2:decide (k≤(4:Int))=true:=decide_eq_true h.2;clear h;go_in;go_wp2_with fail
 go_ret;exact⟨rfl,rfl⟩
theorem leaf_no (k:Int) (h:¬ (1≤k∧k≤4)) (w:World):Calls Tryz.prog 110 #[.int .i64 k] w fun e w'=>e=.returned (.bool false)∧w=w':=by
 by_cases h1:1≤k
 ·have t1:decide ((1:Int)≤k)=true:=decide_eq_true h1;have t2:decide (k≤(4:Int))=false:=decide_eq_false (by omega);clear h h1;go_in;go_wp2_with fail
  go_ret;exact⟨rfl,rfl⟩
 ·have t1:decide ((1:Int)≤k)=false:=decide_eq_false h1;clear h h1;go_in;go_wp2_with fail
  go_ret;exact⟨rfl,rfl⟩
end
section
open Go.RowKit
/-- what value.row finds -/
def rowV (a b:VT):Int:=if a.kind=1∨a.kind=2 then sgnI a.num b.num else if a.kind=3 then ordB a.flt b.flt else if a.kind=4 then txtO a.str b.str else headO a b
theorem ordV_row {a b:VT} (h:a.kind=b.kind):ordV a b=if rowV a b≠0∨(1≤a.kind∧a.kind≤4) then rowV a b else ordL a.items b.items:=by
 by_cases h1:a.kind=1∨a.kind=2
 ·rw[ordV_n h h1,if_pos (.inr (by omega))];unfold rowV;rw[if_pos h1]
 ·by_cases h3:a.kind=3
  ·rw[ordV_f h h3,if_pos (.inr (by omega))];unfold rowV;rw[if_neg h1,if_pos h3]
  ·by_cases h4:a.kind=4
   ·rw[ordV_s h h4,if_pos (.inr (by omega))];unfold rowV;rw[if_neg h1,if_neg h3,if_pos h4]
   ·have e:rowV a b=headO a b:=by unfold rowV;rw[if_neg h1,if_neg h3,if_neg h4]
    rw[ordV_gen h (by omega) (by omega) h3 h4,e];by_cases h5:headO a b=0
    ·rw[if_pos h5,if_neg (by omega)]
    ·rw[if_neg h5,if_pos (.inl h5)]
theorem vrow_any (a b:VT) (H H':Nat) (pn pi pn' pi':Value) (w:World)
  (hA:w.heap[H]?=some (.cells #[.int .i64 a.kind,.int .i64 a.num,.float .f64 a.flt,.string ⟨a.str.toArray⟩,pn,pi] 28 (0,0)))
  (hB:w.heap[H']?=some (.cells #[.int .i64 a.kind,.int .i64 b.num,.float .f64 b.flt,.string ⟨b.str.toArray⟩,pn',pi'] 28 (0,0)))
  (hfa:F64 a.flt) (hfb:F64 b.flt) (hsa:Strs w a.names pn) (hsb:Strs w b.names pn') :
  Calls Tryz.prog 109 #[.pointer (some ⟨H,0,none⟩),.pointer (some ⟨H',0,none⟩)] w (Gives (.int .i64 (rowV a b)) w):=by
 have hr:rowV a b=if a.kind=1∨a.kind=2 then sgnI a.num b.num else if a.kind=3 then ordB a.flt b.flt else if a.kind=4 then txtO a.str b.str else if a.kind=5 then 0 else if a.kind=6 then rowsO a.names b.names else(if sgnI a.num b.num=0 then(if txtO a.str b.str=0 then rowsO a.names b.names else txtO a.str b.str) else sgnI a.num b.num):=by
  unfold rowV;split
  ·rfl
  ·split
   ·rfl
   ·split
    ·rfl
    ·unfold headO preO;by_cases h5:a.kind=5
     ·rw[if_pos h5,if_neg (fun h=>h.2 h5),if_pos (.inl h5)]
     ·rw[if_neg h5];by_cases h6:a.kind=6
      ·simp[h6]
      ·rw[if_neg h6,if_neg (show ¬ (a.kind=5∨a.kind=6) by omega)];by_cases h7:sgnI a.num b.num=0
       ·rw[if_pos h7,if_pos h7];by_cases h8:txtO a.str b.str=0
        ·rw[if_pos ⟨h8,h5⟩,if_pos h8]
        ·rw[if_neg (fun h=>h8 h.1),if_neg h8]
       ·rw[if_neg h7,if_neg h7,if_neg (fun h=>h7 h.1)]
 have HBl:=zh (fun x (h:Below w.heap.size w x)=>(show x.heap[H]?=_∧x.heap[H']?=_ from⟨(h.block _ (lt_of_block hA)).trans hA,(h.block _ (lt_of_block hB)).trans hB⟩));have H1:=zh (fun w=>cmpQ_int64 a.num b.num w);have H3:=zh (fun w=>order_any a.flt b.flt hfa hfb w);have H4:=zh (fun w=>(show Calls Tryz.prog 145 #[.string ⟨a.str.toArray⟩,.string ⟨b.str.toArray⟩] w (fun e w'=>e=.returned (.int .i64 (txtO a.str b.str))∧w=w') from by
  have:=scompare_any ⟨a.str.toArray⟩ ⟨b.str.toArray⟩ w;rwa [ByteArray.toList_eq,ByteArray.toList_eq]at this))
 have H6:=zh (fun x (h:Below w.heap.size w x)=>srows_any a.names b.names pn pn' x (hsa.kept h) (hsb.kept h));clear hA hB hfa hfb hsa hsb;generalize sgnI a.num b.num=o1 at *;generalize ordB a.flt b.flt=o3 at *;generalize txtO a.str b.str=o4 at *;generalize rowsO a.names b.names=o6 at *;generalize a.kind=K at *;generalize a.num=X at *;generalize b.num=X' at *;generalize a.flt=fa at *;generalize b.flt=fb at *;generalize (⟨a.str.toArray⟩:ByteArray)=S at *;generalize (⟨b.str.toArray⟩:ByteArray)=S' at *;by_cases k1:K=1
 ·subst k1;rw[if_pos (.inl rfl)]at hr;have HR:=zh hr;clear hr;have nA:=(HBl.out _ (Below.refl _ _)).1;have nB:=(HBl.out _ (Below.refl _ _)).2;have a0:w.cell? ⟨H,0,none⟩=some (.int .i64 1):=by rw[zc nA];rfl
  have b0:w.cell? ⟨H',0,none⟩=some (.int .i64 1):=by rw[zc nB];rfl
  clear nA nB;have nA:=(HBl.out _ (Below.refl _ _)).1;have nB:=(HBl.out _ (Below.refl _ _)).2;have a1:w.cell? ⟨H,1,none⟩=some (.int .i64 X):=by rw[zc nA];rfl
  have b1:w.cell? ⟨H',1,none⟩=some (.int .i64 X'):=by rw[zc nB];rfl
  clear nA nB;go_in;go_wp2_with fail
  go_quiet (refine Calls.quiet_of_same ((H1.out _).mono fun _ _ h=>⟨h.1,h.2.symm⟩))
  go_wp2_with fail
  go_ret;exact⟨ret_val (by rw[HR.out];rfl),⟨rfl,rfl,rfl,Nat.le_refl _,fun _ _=>rfl⟩⟩
 ·have n1:(K==1)=false:=beq_eq_false_iff_ne.2 k1;by_cases k2:K=2
  ·subst k2;rw[if_pos (.inr rfl)]at hr;have HR:=zh hr;clear hr k1;have nA:=(HBl.out _ (Below.refl _ _)).1;have nB:=(HBl.out _ (Below.refl _ _)).2;have a0:w.cell? ⟨H,0,none⟩=some (.int .i64 2):=by rw[zc nA];rfl
   have b0:w.cell? ⟨H',0,none⟩=some (.int .i64 2):=by rw[zc nB];rfl
   clear nA nB;have nA:=(HBl.out _ (Below.refl _ _)).1;have nB:=(HBl.out _ (Below.refl _ _)).2;have a1:w.cell? ⟨H,1,none⟩=some (.int .i64 X):=by rw[zc nA];rfl
   have b1:w.cell? ⟨H',1,none⟩=some (.int .i64 X'):=by rw[zc nB];rfl
   clear nA nB;go_in;go_wp2_with fail
   go_quiet (refine Calls.quiet_of_same ((H1.out _).mono fun _ _ h=>⟨h.1,h.2.symm⟩))
   go_wp2_with fail
   go_ret;exact⟨ret_val (by rw[HR.out];rfl),⟨rfl,rfl,rfl,Nat.le_refl _,fun _ _=>rfl⟩⟩
  ·have n2:(K==2)=false:=beq_eq_false_iff_ne.2 k2;rw[if_neg (by omega)]at hr;by_cases k3:K=3
   ·subst k3;rw[if_pos rfl]at hr;have HR:=zh hr;clear hr k1 k2;have nA:=(HBl.out _ (Below.refl _ _)).1;have nB:=(HBl.out _ (Below.refl _ _)).2;have a0:w.cell? ⟨H,0,none⟩=some (.int .i64 3):=by rw[zc nA];rfl
    have b0:w.cell? ⟨H',0,none⟩=some (.int .i64 3):=by rw[zc nB];rfl
    clear nA nB;have nA:=(HBl.out _ (Below.refl _ _)).1;have nB:=(HBl.out _ (Below.refl _ _)).2;have a2:w.cell? ⟨H,2,none⟩=some (.float .f64 fa):=by rw[zc nA];rfl
    have b2:w.cell? ⟨H',2,none⟩=some (.float .f64 fb):=by rw[zc nB];rfl
    clear nA nB;go_in;go_wp2_with fail
    go_quiet (refine Calls.quiet_of_same ((H3.out _).mono fun _ _ h=>⟨h.1,h.2.symm⟩))
    go_wp2_with fail
    go_ret;exact⟨ret_val (by rw[HR.out];rfl),⟨rfl,rfl,rfl,Nat.le_refl _,fun _ _=>rfl⟩⟩
   ·have n3:(K==3)=false:=beq_eq_false_iff_ne.2 k3;rw[if_neg k3]at hr;by_cases k4:K=4
    ·subst k4;rw[if_pos rfl]at hr;have HR:=zh hr;clear hr k1 k2 k3;have nA:=(HBl.out _ (Below.refl _ _)).1;have nB:=(HBl.out _ (Below.refl _ _)).2;have a0:w.cell? ⟨H,0,none⟩=some (.int .i64 4):=by rw[zc nA];rfl
     have b0:w.cell? ⟨H',0,none⟩=some (.int .i64 4):=by rw[zc nB];rfl
     clear nA nB;have nA:=(HBl.out _ (Below.refl _ _)).1;have nB:=(HBl.out _ (Below.refl _ _)).2;have a3:w.cell? ⟨H,3,none⟩=some (.string S):=by rw[zc nA];rfl
     have b3:w.cell? ⟨H',3,none⟩=some (.string S'):=by rw[zc nB];rfl
     clear nA nB;go_in;go_wp2_with fail
     go_quiet (refine Calls.quiet_of_same ((H4.out _).mono fun _ _ h=>⟨h.1,h.2.symm⟩))
     go_wp2_with fail
     go_ret;exact⟨ret_val (by rw[HR.out];rfl),⟨rfl,rfl,rfl,Nat.le_refl _,fun _ _=>rfl⟩⟩
    ·have n4:(K==4)=false:=beq_eq_false_iff_ne.2 k4;rw[if_neg k4]at hr;by_cases k5:K=5
     ·subst k5;rw[if_pos rfl]at hr;have HR:=zh hr;clear hr k1 k2 k3 k4;have nA:=(HBl.out _ (Below.refl _ _)).1;have a0:w.cell? ⟨H,0,none⟩=some (.int .i64 5):=by rw[zc nA];rfl
      clear nA;go_in;go_wp2_with fail
      go_ret;exact⟨ret_val (by rw[HR.out];rfl),Below.refl _ _⟩
     ·have n5:(K==5)=false:=beq_eq_false_iff_ne.2 k5;rw[if_neg k5]at hr;by_cases k6:K=6
      ·subst k6;rw[if_pos rfl]at hr;have HR:=zh hr;clear hr k1 k2 k3 k4 k5;have nA:=(HBl.out _ (Below.refl _ _)).1;have nB:=(HBl.out _ (Below.refl _ _)).2;have a0:w.cell? ⟨H,0,none⟩=some (.int .i64 6):=by rw[zc nA];rfl
       have b0:w.cell? ⟨H',0,none⟩=some (.int .i64 6):=by rw[zc nB];rfl
       clear nA nB;have nA:=(HBl.out _ (Below.refl _ _)).1;have nB:=(HBl.out _ (Below.refl _ _)).2;have a4:w.cell? ⟨H,4,none⟩=some (pn):=by rw[zc nA];rfl
       have b4:w.cell? ⟨H',4,none⟩=some (pn'):=by rw[zc nB];rfl
       clear nA nB;go_in;go_wp2_with fail
       go_quiet (refine Calls.quiet_of_same ((H6.out (w.drewN _) ⟨rfl,rfl,rfl,Nat.le_refl _,fun _ _=>rfl⟩).mono fun _ _ h=>⟨h.1,h.2.symm⟩))
       go_wp2_with fail
       go_ret;exact⟨ret_val (by rw[HR.out];rfl),⟨rfl,rfl,rfl,Nat.le_refl _,fun _ _=>rfl⟩⟩
      ·have n6:(K==6)=false:=beq_eq_false_iff_ne.2 k6;rw[if_neg k6]at hr;have HO:=zh (fun g w h0 h1 h2=>or3_any o1 o4 o6 g w h0 h1 h2);generalize (if o1=0 then(if o4=0 then o6 else o4) else o1)=r0 at hr HO
       have HR:=zh hr;clear hr k1 k2 k3 k4 k5 k6;have H1b:=zh (fun w=>(H1.out w).mono fun e w' h=>(show e=.returned (.int .i64 o1)∧Below w.heap.size w w' from⟨h.1,h.2 ▸ Below.refl _ _⟩));have H4b:=zh (fun w=>(H4.out w).mono fun e w' h=>(show e=.returned (.int .i64 o4)∧Below w.heap.size w w' from⟨h.1,h.2 ▸ Below.refl _ _⟩));have H6b:=zh (fun x (hx:Below w.heap.size w x)=>(H6.out x hx).mono fun e w' h=>(show e=.returned (.int .i64 o6)∧Below x.heap.size x w' from⟨h.1,h.2 ▸ Below.refl _ _⟩));have HK:=zh (fun x (h:Below w.heap.size w x)=>(show x.cell? ⟨H,1,none⟩=some (.int .i64 X)∧x.cell? ⟨H',1,none⟩=some (.int .i64 X')∧x.cell? ⟨H,3,none⟩=some (.string S)∧x.cell? ⟨H',3,none⟩=some (.string S')∧x.cell? ⟨H,4,none⟩=some (pn)∧x.cell? ⟨H',4,none⟩=some (pn') from by
        obtain⟨nA,nB⟩:=HBl.out _ h;exact⟨by rw[zc nA];rfl,by rw[zc nB];rfl,by rw[zc nA];rfl,by rw[zc nB];rfl,by rw[zc nA];rfl,by rw[zc nB];rfl⟩))
       have hq0:=Below.refl w.heap.size w;have nA:=(HBl.out _ (Below.refl _ _)).1;have nB:=(HBl.out _ (Below.refl _ _)).2;have a0:w.cell? ⟨H,0,none⟩=some (.int .i64 K):=by rw[zc nA];rfl
       have b0:w.cell? ⟨H',0,none⟩=some (.int .i64 K):=by rw[zc nB];rfl
       have a1:w.cell? ⟨H,1,none⟩=some (.int .i64 X):=by rw[zc nA];rfl
       have b1:w.cell? ⟨H',1,none⟩=some (.int .i64 X'):=by rw[zc nB];rfl
       have a3:w.cell? ⟨H,3,none⟩=some (.string S):=by rw[zc nA];rfl
       have b3:w.cell? ⟨H',3,none⟩=some (.string S'):=by rw[zc nB];rfl
       have a4:w.cell? ⟨H,4,none⟩=some (pn):=by rw[zc nA];rfl
       have b4:w.cell? ⟨H',4,none⟩=some (pn'):=by rw[zc nB];rfl
       clear nA nB;go_in;go_wp2_with fail
       go_region_held3 (fun x=>x.cell? ⟨H,1,none⟩=some (.int .i64 X)∧x.cell? ⟨H',1,none⟩=some (.int .i64 X')∧x.cell? ⟨H,3,none⟩=some (.string S)∧x.cell? ⟨H',3,none⟩=some (.string S')∧x.cell? ⟨H,4,none⟩=some (pn)∧x.cell? ⟨H',4,none⟩=some (pn')) (first|with_reducible exact HK.out _ hq0|with_reducible exact HK.out _ hq0.drew|with_reducible exact HK.out _ hq1|with_reducible exact HK.out _ hq2|with_reducible exact HK.out _ hq3|go_keep)
        (first
         | (go_at_call 143;(with_reducible refine(H1b.out _).mono ?_);rintro e u1 ⟨rfl,hb1⟩;have hq1:=below_tr' hq0.drew hb1)
         | (go_at_call 145;(with_reducible refine(H4b.out _).mono ?_);rintro e u2 ⟨rfl,hb2⟩;have hq2:=below_tr' hq1 hb2)
         | (go_at_call 146;(with_reducible refine(H6b.out _ hq2).mono ?_);rintro e u3 ⟨rfl,hb3⟩;have hq3:=below_tr' hq2 hb3)
         | (go_at_call 147;have z0:(u3.alloc (.cells #[.int .i64 o1,.int .i64 o4,.int .i64 o6] 3)).cell? ⟨u3.heap.size,0,none⟩=some (.int .i64 o1):=(by rw[zc (heap_alloc_new u3 _)];simp);have z1:(u3.alloc (.cells #[.int .i64 o1,.int .i64 o4,.int .i64 o6] 3)).cell? ⟨u3.heap.size,1,none⟩=some (.int .i64 o4):=(by rw[zc (heap_alloc_new u3 _)];simp);have z2:(u3.alloc (.cells #[.int .i64 o1,.int .i64 o4,.int .i64 o6] 3)).cell? ⟨u3.heap.size,2,none⟩=some (.int .i64 o6):=(by rw[zc (heap_alloc_new u3 _)];simp);(with_reducible refine(HO.out _ _ z0 z1 z2).mono ?_);rintro e u4 ⟨rfl,rfl⟩))
       go_wp2_with fail
       go_ret;exact⟨ret_val (by rw[HR.out];rfl),hq3.alloc hq3.size _⟩
end
section
open Go.RowKit
theorem enters_ord:∀ args w,(callFunc 77 args).run Tryz.prog w=.ok (.enter 77 args) w:=enters_of Tryz.func77 (by kernel_rfl) rfl
theorem vcmpf_any (d d2:Nat) (its its':List VT) (p p':Option Addr) (cap cap':Nat) (w:World)
  (ih:∀ (d2:Nat) (a b:VT) (ca cb:Array Value) (w:World),ValAt w d a ca→ValAt w d2 b cb→Calls Tryz.prog 77 #[.agg ca,.agg cb] w (Gives (.int .i64 (ordV a b)) w))
  (hN:its.length≤140737488355328)
  (ha:∀ i,i<its.length→∃ g off,p=some ⟨g,off,none⟩∧g<w.heap.size∧∃ ds,ValAt w d (its.getD i noVT) ds∧∀ j,j<6→w.cell? ⟨g,off+i*6+j,none⟩=ds[j]?)
  (hb:∀ i,i<its'.length→∃ g off,p'=some ⟨g,off,none⟩∧g<w.heap.size∧∃ ds,ValAt w d2 (its'.getD i noVT) ds∧∀ j,j<6→w.cell? ⟨g,off+i*6+j,none⟩=ds[j]?) :
  Calls Tryz.prog 111 #[.slice p its.length cap,.slice p' its'.length cap',.func (.func 77) #[] #[]] w (Gives (.int .i64 (ordL its its')) w):=by
 have hsf:∀ (a:Addr) (x:Nat) (m:Mode) (w:World),(store a (.float .f64 x) m).run Tryz.prog w=stored Tryz.prog w a (.float .f64 x) m:=fun a x m w=>run_store _ w a _ m rfl
 have hen:=enters_ord;have HIA:=zh (fun i (hi:i<its.length) x (h:Below w.heap.size w x)=>(show ∃ g off ds,p=some ⟨g,off,none⟩∧ValAt x d (its.getD i noVT) ds∧x.cell? ⟨g,off+i*6,none⟩=ds[0]?∧x.cell? ⟨g,off+i*6+1,none⟩=ds[1]?∧x.cell? ⟨g,off+i*6+2,none⟩=ds[2]?∧x.cell? ⟨g,off+i*6+3,none⟩=ds[3]?∧x.cell? ⟨g,off+i*6+4,none⟩=ds[4]?∧x.cell? ⟨g,off+i*6+5,none⟩=ds[5]? from by
  obtain⟨g,off,h1,h2,ds,h3,h4⟩:=ha i hi;have hc:=fun j (hj:j<6)=>(h.cell (p:=⟨g,off+i*6+j,none⟩) h2).trans (h4 j hj)
  exact⟨g,off,ds,h1,h3.kept h,hc 0 (by omega),hc 1 (by omega),hc 2 (by omega),hc 3 (by omega),hc 4 (by omega),hc 5 (by omega)⟩))
 have HIB:=zh (fun i (hi:i<its'.length) x (h:Below w.heap.size w x)=>(show ∃ g off ds,p'=some ⟨g,off,none⟩∧ValAt x d2 (its'.getD i noVT) ds∧x.cell? ⟨g,off+i*6,none⟩=ds[0]?∧x.cell? ⟨g,off+i*6+1,none⟩=ds[1]?∧x.cell? ⟨g,off+i*6+2,none⟩=ds[2]?∧x.cell? ⟨g,off+i*6+3,none⟩=ds[3]?∧x.cell? ⟨g,off+i*6+4,none⟩=ds[4]?∧x.cell? ⟨g,off+i*6+5,none⟩=ds[5]? from by
  obtain⟨g,off,h1,h2,ds,h3,h4⟩:=hb i hi;have hc:=fun j (hj:j<6)=>(h.cell (p:=⟨g,off+i*6+j,none⟩) h2).trans (h4 j hj)
  exact⟨g,off,ds,h1,h3.kept h,hc 0 (by omega),hc 1 (by omega),hc 2 (by omega),hc 3 (by omega),hc 4 (by omega),hc 5 (by omega)⟩))
 have HStep:=zh (fun i (h1:i<its.length) h2=>ordL_step (a:=its) (b:=its') (i:=i) h1 h2);have HEnd:=zh (fun i (h1:i≤its.length) h2 h3=>ordL_end (a:=its) (b:=its') (i:=i) h1 h2 h3);have h0:Hid (ordL its its'=ordL (its.drop 0) (its'.drop 0)):=by show _=_;rw[List.drop_zero,List.drop_zero]
 have IH:=zh ih;clear ha hb ih;generalize its.length=N at *;generalize its'.length=M at *;generalize ordL its its'=R at *;go_in;go_wp2_with fail
 go_loopw [13] (fun iv wr=>∃ i:Nat,iv=.int .i64 (i:Int)∧i≤N∧i≤M∧Hid (R=ordL (its.drop i) (its'.drop i))∧Below w.heap.size w wr) (fun iv _=>N - (intOf iv).toNat)
 case atStart=>exact⟨0,rfl,Nat.zero_le _,Nat.zero_le _,h0,Below.refl _ _⟩
 case round =>
  clear h0;obtain⟨i,rfl,hi,hj,hR,hbr⟩:=hrel;by_cases hlt:i<N
  ·have t0:decide ((i:Int)<(N:Int))=true:=by simp;omega
   obtain⟨g,off,ds,rfl,hva,x0,x1,x2,x3,x4,x5⟩:=HIA.out i hlt wr hbr;obtain⟨va,hva0⟩:∃ va,its.getD i noVT=va:=⟨_,rfl⟩;rw[hva0]at hva;have HVa:=zh hva0;clear hva0;obtain⟨q1,r1,s1,v1,rfl⟩:=hva.sixS;simp at x0 x1 x2 x3 x4 x5;have b1:(0:Int)≤(i:Int):=by omega
   have b2:(i:Int)<(N:Int):=by omega
   have HVA:=zh hva;clear hva;go_upto_region 4 with (fail)
   have hg1:=heap_alloc_new wr (.cells #[.int .i64 va.kind,.int .i64 va.num,.float .f64 va.flt,.string ⟨va.str.toArray⟩,.slice q1 va.names.length r1,.slice s1 va.items.length v1] 28);have hA1:Below wr.heap.size wr (wr.alloc (.cells #[.int .i64 va.kind,.int .i64 va.num,.float .f64 va.flt,.string ⟨va.str.toArray⟩,.slice q1 va.names.length r1,.slice s1 va.items.length v1] 28)):=(Below.refl _ _).alloc (Nat.le_refl _) _;generalize wr.alloc (.cells #[.int .i64 va.kind,.int .i64 va.num,.float .f64 va.flt,.string ⟨va.str.toArray⟩,.slice q1 va.names.length r1,.slice s1 va.items.length v1] 28)=W1 at *;clear x0 x1 x2 x3 x4 x5;have hb1:=below_tr' hbr hA1;have HVA1:=zh (HVA.out.kept hA1);clear hA1 HVA;generalize wr.heap.size=H1 at *;by_cases hlm:i<M
   ·have t1:decide ((M:Int)≤(i:Int))=false:=by simp;omega
    have hst:=HStep.out i hlt hlm;rw[HVa.out]at hst;obtain⟨g',off',ds',rfl,hvb,y0,y1,y2,y3,y4,y5⟩:=HIB.out i hlm W1 hb1;generalize its'.getD i noVT=vb at *;have HST:=zh hst;clear hst;obtain⟨q2,r2,s2,v2,rfl⟩:=hvb.sixS;simp at y0 y1 y2 y3 y4 y5;have b3:(i:Int)<(M:Int):=by omega
    have HVB:=zh hvb;clear hvb;go_upto_region 7 with (fail)
    have hg2:=heap_alloc_new W1 (.cells #[.int .i64 vb.kind,.int .i64 vb.num,.float .f64 vb.flt,.string ⟨vb.str.toArray⟩,.slice q2 vb.names.length r2,.slice s2 vb.items.length v2] 28);have hA2:Below W1.heap.size W1 (W1.alloc (.cells #[.int .i64 vb.kind,.int .i64 vb.num,.float .f64 vb.flt,.string ⟨vb.str.toArray⟩,.slice q2 vb.names.length r2,.slice s2 vb.items.length v2] 28)):=(Below.refl _ _).alloc (Nat.le_refl _) _;generalize W1.alloc (.cells #[.int .i64 vb.kind,.int .i64 vb.num,.float .f64 vb.flt,.string ⟨vb.str.toArray⟩,.slice q2 vb.names.length r2,.slice s2 vb.items.length v2] 28)=W2 at *;clear y0 y1 y2 y3 y4 y5;have hb2:=below_tr' hb1 hA2;replace hg1:=(hA2.block _ (lt_of_block hg1)).trans hg1;have HQ:=zh (IH.out d2 _ _ _ _ W2 (HVA1.out.kept hA2) (HVB.out.kept hA2));clear HVA1 HVB hA2;generalize W1.heap.size=H2 at *;obtain⟨a0,a1,a2,a3,a4,a5⟩:=cells6 hg1;obtain⟨c0,c1,c2,c3,c4,c5⟩:=cells6 hg2;clear hg1 hg2;generalize ordV va vb=c' at *;by_cases hc:c'=0
    ·have HST2:=zh (HST.out.trans (if_pos hc));subst hc;go_wp2_with fail
     refine(HQ.out).mono ?_;rintro e w3 ⟨rfl,hb3⟩;go_wp2_with fail
     go_roundw
     case rel=>exact⟨i+1,by go_num,by omega,by omega,by show _=_;rw[hR.out,HST2.out],below_tr' hb2 hb3⟩
     case measure=>simp[intOf];omega
    ·have HST2:=zh (HST.out.trans (if_neg hc));have tc:(c' != 0)=true:=by rw[bne_iff_ne];exact hc
     clear hc;go_wp2_with fail
     refine(HQ.out).mono ?_;rintro e w3 ⟨rfl,hb3⟩;go_wp2_with fail
     go_ret;exact⟨ret_val (by rw[hR.out,HST2.out];rfl),below_tr' hb2 hb3⟩
   ·have t1:decide ((M:Int)≤(i:Int))=true:=by simp;omega
    have HE:=zh (HEnd.out i hi hj (.inr (by omega)));have HS:=zh (show sgnI (N:Int) (M:Int)=1 from by unfold sgnI;rw[if_neg (by omega),if_pos (by omega)]);go_wp2_with fail
    go_ret;exact⟨ret_val (by rw[hR.out,HE.out,HS.out];rfl),hb1⟩
  ·have t0:decide ((i:Int)<(N:Int))=false:=by simp;omega
   have HE:=zh (HEnd.out i hi hj (.inl (by omega)));by_cases hlm:N<M
   ·have t1:decide ((N:Int)<(M:Int))=true:=by simp;omega
    have HS:=zh (show sgnI (N:Int) (M:Int) = -1 from by unfold sgnI;rw[if_pos (by omega)]);go_wp2_with fail
    go_ret;exact⟨ret_val (by rw[hR.out,HE.out,HS.out];rfl),hbr⟩
   ·have t1:decide ((N:Int)<(M:Int))=false:=by simp;omega
    have HS:=zh (show sgnI (N:Int) (M:Int)=0 from by unfold sgnI;rw[if_neg (by omega),if_neg (by omega)]);go_wp2_with fail
    go_ret;exact⟨ret_val (by rw[hR.out,HE.out,HS.out];rfl),hbr⟩
theorem vOrder_step (d d2:Nat) (a b:VT) (ca cb:Array Value) (w:World)
  (ih:∀ (d2:Nat) (a b:VT) (ca cb:Array Value) (w:World),ValAt w d a ca→ValAt w d2 b cb→Calls Tryz.prog 77 #[.agg ca,.agg cb] w (Gives (.int .i64 (ordV a b)) w))
  (ha:ValAt w (d+1) a ca) (hb:ValAt w (d2+1) b cb):Calls Tryz.prog 77 #[.agg ca,.agg cb] w (Gives (.int .i64 (ordV a b)) w):=by
 obtain⟨pp,pc,p,cap,hca⟩:=ha.sixS;obtain⟨pp',pc',p',cap',hcb⟩:=hb.sixS;have hia:=ha.boxes hca;have hib:=hb.boxes hcb;obtain⟨hsa,hfa,hNb⟩:=ha.strs hca;obtain⟨hsb,hfb,_⟩:=hb.strs hcb;subst hca;subst hcb;clear ha hb;have HCmp:=zh (fun w=>cmpQ_int a.kind b.kind w);have hA0:Below w.heap.size w (w.alloc (.cells #[.int .i64 a.kind,.int .i64 a.num,.float .f64 a.flt,.string ⟨a.str.toArray⟩,.slice pp a.names.length pc,.slice p a.items.length cap] 28)):=(Below.refl _ _).alloc (Nat.le_refl _) _;have hA1:=heap_alloc_new w (.cells #[.int .i64 a.kind,.int .i64 a.num,.float .f64 a.flt,.string ⟨a.str.toArray⟩,.slice pp a.names.length pc,.slice p a.items.length cap] 28);have hz1:(w.alloc (.cells #[.int .i64 a.kind,.int .i64 a.num,.float .f64 a.flt,.string ⟨a.str.toArray⟩,.slice pp a.names.length pc,.slice p a.items.length cap] 28)).heap.size=w.heap.size+1:=by simp
 go_in;go_upto_region 1 with (fail)
 generalize w.alloc (.cells #[.int .i64 a.kind,.int .i64 a.num,.float .f64 a.flt,.string ⟨a.str.toArray⟩,.slice pp a.names.length pc,.slice p a.items.length cap] 28)=V at *;have hB0:Below V.heap.size V (V.alloc (.cells #[.int .i64 b.kind,.int .i64 b.num,.float .f64 b.flt,.string ⟨b.str.toArray⟩,.slice pp' b.names.length pc',.slice p' b.items.length cap'] 28)):=(Below.refl _ _).alloc (Nat.le_refl _) _;have hB1:=heap_alloc_new V (.cells #[.int .i64 b.kind,.int .i64 b.num,.float .f64 b.flt,.string ⟨b.str.toArray⟩,.slice pp' b.names.length pc',.slice p' b.items.length cap'] 28);have hA1:=(hB0.block _ (lt_of_block hA1)).trans hA1;have hB:=below_tr' hA0 hB0;try rw[hz1]at hB1
 generalize V.alloc (.cells #[.int .i64 b.kind,.int .i64 b.num,.float .f64 b.flt,.string ⟨b.str.toArray⟩,.slice pp' b.names.length pc',.slice p' b.items.length cap'] 28)=W at *;clear hA0 hB0 hz1;have hiaW:∀ i,i<a.items.length→∃ g off,p=some ⟨g,off,none⟩∧g<W.heap.size∧∃ ds,ValAt W d (a.items.getD i noVT) ds∧∀ j,j<6→W.cell? ⟨g,off+i*6+j,none⟩=ds[j]?:=fun i hi=>by
  obtain⟨g,off,h1,h2,ds,h3,h4⟩:=hia i hi;exact⟨g,off,h1,Nat.lt_of_lt_of_le h2 hB.size,ds,h3.kept hB,fun j hj=>(hB.cell (p:=⟨g,off+i*6+j,none⟩) h2).trans (h4 j hj)⟩
 have hibW:∀ i,i<b.items.length→∃ g off,p'=some ⟨g,off,none⟩∧g<W.heap.size∧∃ ds,ValAt W d2 (b.items.getD i noVT) ds∧∀ j,j<6→W.cell? ⟨g,off+i*6+j,none⟩=ds[j]?:=fun i hi=>by
  obtain⟨g,off,h1,h2,ds,h3,h4⟩:=hib i hi;exact⟨g,off,h1,Nat.lt_of_lt_of_le h2 hB.size,ds,h3.kept hB,fun j hj=>(hB.cell (p:=⟨g,off+i*6+j,none⟩) h2).trans (h4 j hj)⟩
 replace hsa:=hsa.kept hB;replace hsb:=hsb.kept hB;clear hia hib;generalize hH:w.heap.size=H at *;have HH:=zh hH;clear hH;have a0:W.cell? ⟨H,0,none⟩=some (.int .i64 a.kind):=by rw[zc hA1];rfl
 have b0:W.cell? ⟨H+1,0,none⟩=some (.int .i64 b.kind):=by rw[zc hB1];rfl
 by_cases hk:a.kind=b.kind
 ·have hro:=ordV_row hk;have HRow:=zh (vrow_any a b H (H+1) _ _ _ _ W hA1 (by rw[hk];exact hB1) hfa hfb hsa hsb);have HCF:=zh (fun x (hx:Below W.heap.size W x)=>vcmpf_any d d2 a.items b.items p p' cap cap' x ih hNb
   (fun i hi=>by
    obtain⟨g,off,h1,h2,ds,h3,h4⟩:=hiaW i hi;exact⟨g,off,h1,Nat.lt_of_lt_of_le h2 hx.size,ds,h3.kept hx,fun j hj=>(hx.cell (p:=⟨g,off+i*6+j,none⟩) h2).trans (h4 j hj)⟩)
   (fun i hi=>by
    obtain⟨g,off,h1,h2,ds,h3,h4⟩:=hibW i hi;exact⟨g,off,h1,Nat.lt_of_lt_of_le h2 hx.size,ds,h3.kept hx,fun j hj=>(hx.cell (p:=⟨g,off+i*6+j,none⟩) h2).trans (h4 j hj)⟩))
  have HBl:=zh (fun x (hx:Below W.heap.size W x)=>(show x.cell? ⟨H,0,none⟩=some (.int .i64 a.kind)∧x.cell? ⟨H,5,none⟩=some (.slice p a.items.length cap)∧x.cell? ⟨H+1,5,none⟩=some (.slice p' b.items.length cap') from
   ⟨by rw[zc ((hx.block _ (lt_of_block hA1)).trans hA1)];rfl,by rw[zc ((hx.block _ (lt_of_block hA1)).trans hA1)];rfl,by rw[zc ((hx.block _ (lt_of_block hB1)).trans hB1)];rfl⟩))
  have HLy:=zh (fun h w=>leaf_yes a.kind h w);have HLn:=zh (fun h w=>leaf_no a.kind h w);have hcm:sgnI a.kind b.kind=0:=by rw[hk];exact sgnI_self _
  rw[hcm]at HCmp;have HRO:=zh hro;clear hro hcm hiaW hibW hsa hsb hfa hfb hNb hA1 hB1 ih;rw[←hk]at b0;generalize ordV a b=R at *;generalize rowV a b=c at *;generalize ordL a.items b.items=L at *;generalize a.items.length=N at *;generalize b.items.length=M at *;have HKK:=zh hk;rw[←hk]at HCmp;generalize a.kind=K at *;clear hk;by_cases hc:c=0
  ·subst hc;by_cases hl:1≤K∧K≤4
   ·have HRO:=zh (HRO.out.trans (if_pos (.inr hl)));have HL:=zh (fun w=>HLy.out hl w);clear hl;go_wp2_with fail
    refine(HCmp.out _).mono ?_;rintro e w1 ⟨rfl,rfl⟩;go_wp2_with fail
    refine(HRow.out).mono ?_;rintro e w2 ⟨rfl,hb2⟩;obtain⟨e0,_,_⟩:=HBl.out _ hb2;go_wp2_with fail
    refine(HL.out _).mono ?_;rintro e w3 ⟨rfl,rfl⟩;go_wp2_with fail
    go_ret;exact⟨ret_val (by rw[HRO.out];rfl),HH.out ▸ below_tr' (HH.out ▸ hB) hb2⟩
   ·have HRO:=zh (HRO.out.trans (if_neg (by omega)));have HL:=zh (fun w=>HLn.out hl w);clear hl;go_wp2_with fail
    refine(HCmp.out _).mono ?_;rintro e w1 ⟨rfl,rfl⟩;go_wp2_with fail
    refine(HRow.out).mono ?_;rintro e w2 ⟨rfl,hb2⟩;obtain⟨e0,e5,f5⟩:=HBl.out _ hb2;have HC2:=zh (HCF.out _ hb2);go_wp2_with fail
    refine(HL.out _).mono ?_;rintro e w3 ⟨rfl,rfl⟩;go_wp2_with fail
    refine(HC2.out).mono ?_;rintro e w4 ⟨rfl,hb4⟩;go_wp2_with fail
    go_ret;exact⟨ret_val (by rw[HRO.out];rfl),HH.out ▸ below_tr' (below_tr' (HH.out ▸ hB) hb2) hb4⟩
  ·have HRO:=zh (HRO.out.trans (if_pos (.inl hc)));have tc:(c != 0)=true:=by rw[bne_iff_ne];exact hc
   clear hc;go_wp2_with fail
   refine(HCmp.out _).mono ?_;rintro e w1 ⟨rfl,rfl⟩;go_wp2_with fail
   refine(HRow.out).mono ?_;rintro e w2 ⟨rfl,hb2⟩;go_wp2_with fail
   go_ret;exact⟨ret_val (by rw[HRO.out];rfl),HH.out ▸ below_tr' (HH.out ▸ hB) hb2⟩
 ·have hro:=ordV_ne hk;have hne:sgnI a.kind b.kind≠0:=by unfold sgnI;split<;>(try split)<;>omega
  have HRO:=zh hro;clear hro hiaW hibW hsa hsb hfa hfb hNb hA1 hB1 ih;generalize ordV a b=R at *;generalize sgnI a.kind b.kind=c at *;have tc:(c != 0)=true:=by rw[bne_iff_ne];exact hne
  clear hne;go_wp2_with fail
  refine(HCmp.out _).mono ?_;rintro e w1 ⟨rfl,rfl⟩;go_wp2_with fail
  go_ret;exact⟨ret_val (by rw[HRO.out];rfl),HH.out ▸ hB⟩
theorem vOrder_any:∀ (d d2:Nat) (a b:VT) (ca cb:Array Value) (w:World),ValAt w d a ca→ValAt w d2 b cb→Calls Tryz.prog 77 #[.agg ca,.agg cb] w (Gives (.int .i64 (ordV a b)) w)
 | 0,_,_,_,_,_,_,h,_=>h.elim
 | _+1,0,_,_,_,_,_,_,h=>h.elim
 | d+1,d2+1,a,b,ca,cb,w,ha,hb=>vOrder_step d d2 a b ca cb w (fun d2 a b ca cb w h1 h2=>vOrder_any d d2 a b ca cb w h1 h2) ha hb
theorem vSame_any (d d2:Nat) (a b:VT) (ca cb:Array Value) (w:World) (ha:ValAt w d a ca) (hb:ValAt w d2 b cb):Calls Tryz.prog 47 #[.agg ca,.agg cb] w (Gives (.bool (sameV a b)) w):=by
 have hA0:Below w.heap.size w (w.alloc (.cells ca 28)):=(Below.refl _ _).alloc (Nat.le_refl _) _;have hA1:=heap_alloc_new w (.cells ca 28);have hO:=vOrder_any d d2 a b ca cb;obtain⟨pp,pc,p,cap,hca⟩:=ha.sixS;obtain⟨pp',pc',p',cap',hcb⟩:=hb.sixS;subst hca;subst hcb;have hz1:(w.alloc (.cells #[.int .i64 a.kind,.int .i64 a.num,.float .f64 a.flt,.string ⟨a.str.toArray⟩,.slice pp a.names.length pc,.slice p a.items.length cap] 28)).heap.size=w.heap.size+1:=by simp
 have ha:=ha.kept hA0;have hb:=hb.kept hA0;have hs:sameV a b=decide (ordV a b=0):=rfl;go_in;go_upto_region 1 with (fail)
 generalize w.alloc (.cells #[.int .i64 a.kind,.int .i64 a.num,.float .f64 a.flt,.string ⟨a.str.toArray⟩,.slice pp a.names.length pc,.slice p a.items.length cap] 28)=V at *;have hB0:Below V.heap.size V (V.alloc (.cells #[.int .i64 b.kind,.int .i64 b.num,.float .f64 b.flt,.string ⟨b.str.toArray⟩,.slice pp' b.names.length pc',.slice p' b.items.length cap'] 28)):=(Below.refl _ _).alloc (Nat.le_refl _) _;have hB1:=heap_alloc_new V (.cells #[.int .i64 b.kind,.int .i64 b.num,.float .f64 b.flt,.string ⟨b.str.toArray⟩,.slice pp' b.names.length pc',.slice p' b.items.length cap'] 28);have hA1:=(hB0.block _ (lt_of_block hA1)).trans hA1;have hB:=below_tr' hA0 hB0;have HOO:=zh (hO _ (ha.kept hB0) (hb.kept hB0));try rw[hz1]at hB1
 generalize V.alloc (.cells #[.int .i64 b.kind,.int .i64 b.num,.float .f64 b.flt,.string ⟨b.str.toArray⟩,.slice pp' b.names.length pc',.slice p' b.items.length cap'] 28)=W at *;clear hA0 hB0 hz1 hO ha hb;generalize hH:w.heap.size=H at *;have HH:=zh hH;clear hH;obtain⟨a0,a1,a2,a3,a4,a5⟩:=cells6 hA1;obtain⟨b0,b1,b2,b3,b4,b5⟩:=cells6 hB1;have HS:=zh hs;clear hs hA1 hB1;generalize ordV a b=c at *;generalize sameV a b=r at *;by_cases hc:c=0
 ·subst hc;go_wp2_with fail
  refine(HOO.out).mono ?_;rintro e w1 ⟨rfl,hb1⟩;go_wp2_with fail
  go_ret;exact⟨ret_val (by rw[HS.out];rfl),HH.out ▸ below_tr' (HH.out ▸ hB) hb1⟩
 ·have tc:(c==0)=false:=beq_eq_false_iff_ne.2 hc;have HS:=zh (HS.out.trans (decide_eq_false hc));clear hc;go_wp2_with fail
  refine(HOO.out).mono ?_;rintro e w1 ⟨rfl,hb1⟩;go_wp2_with fail
  go_ret;exact⟨ret_val (by rw[HS.out];rfl),HH.out ▸ below_tr' (HH.out ▸ hB) hb1⟩
end
end Go.Proofs.YtepaaochgljcdaaGreatDoor
