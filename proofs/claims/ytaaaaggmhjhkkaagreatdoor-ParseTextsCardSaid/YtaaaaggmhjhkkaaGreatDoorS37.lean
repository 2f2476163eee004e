/-
  U3, U5, Yt in one text.
-/
import Derived.Test.YtaaaaggmhjhkkaaGreatDoorS24
import Derived.Test.YtaaaaggmhjhkkaaGreatDoorCl
set_option maxRecDepth 100000
set_option maxHeartbeats 16000000
namespace Go.Proofs.YtaaaaggmhjhkkaaGreatDoor
section
open Go.RowKit
def plB (v:VT):Bool:=decide (v.items.length=0∧v.names.length=0)
theorem plB_eq (k n:Int) (f:Nat) (s:List UInt8) (ns:List (List UInt8)) (its:List VT):plB (.mk k n f s ns its)=(its.isEmpty&&ns.isEmpty):=by
 show decide (its.length=0∧ns.length=0)=_;cases its<;>cases ns<;>simp
theorem rt1 {v:VT} {far:Nat} (h:v.kind=1):rightV v (far+1)=(plB v&&(zeroB v.flt&&(v.str.isEmpty&&decide (v.num=0∨v.num=1)))):=by
 obtain⟨k,n,f,s,ns,its⟩:=v;have h:k=1:=h;rw[plB_eq,rightV,if_neg (by omega),if_pos h];simp only[Bool.and_assoc];rfl
theorem rt2 {v:VT} {far:Nat} (h:v.kind=2):rightV v (far+1)=(plB v&&(zeroB v.flt&&v.str.isEmpty)):=by
 obtain⟨k,n,f,s,ns,its⟩:=v;have h:k=2:=h;rw[plB_eq,rightV,if_neg (by omega),if_neg (by omega),if_pos h];simp only[Bool.and_assoc];rfl
theorem rt3 {v:VT} {far:Nat} (h:v.kind=3):rightV v (far+1)=(plB v&&(decide (v.num=0)&&v.str.isEmpty)):=by
 obtain⟨k,n,f,s,ns,its⟩:=v;have h:k=3:=h;rw[plB_eq,rightV,if_neg (by omega),if_neg (by omega),if_neg (by omega),if_pos h];simp only[Bool.and_assoc];rfl
theorem rt4 {v:VT} {far:Nat} (h:v.kind=4):rightV v (far+1)=(plB v&&(zeroB v.flt&&(decide (v.num=0)&&decide (v.str.length≤200)))):=by
 obtain⟨k,n,f,s,ns,its⟩:=v;have h:k=4:=h;rw[plB_eq,rightV,if_neg (by omega),if_neg (by omega),if_neg (by omega),if_neg (by omega),if_pos h];simp only[Bool.and_assoc];rfl
theorem isE_lenU {α:Type} (l:List α):l.isEmpty=decide (l.length=0):=by cases l<;>simp
theorem rt5 {v:VT} {far:Nat} (h:v.kind=5):rightV v (far+1)=(zeroB v.flt&&(decide (v.num=0)&&(v.str.isEmpty&&(decide (v.names.length=0)&&rightL v.items far)))):=by
 obtain⟨k,n,f,s,ns,its⟩:=v;have h:k=5:=h;rw[rightV,if_neg (by omega),if_neg (by omega),if_neg (by omega),if_neg (by omega),if_neg (by omega),if_pos h,isE_lenU ns];simp only[Bool.and_assoc];rfl
theorem rt6 {v:VT} {far:Nat} (h:v.kind=6):rightV v (far+1)=(zeroB v.flt&&(decide (v.num=0)&&(v.str.isEmpty&&(namesB v.names (v.items.length:Int)&&rightL v.items far)))):=by
 obtain⟨k,n,f,s,ns,its⟩:=v;have h:k=6:=h;have e:namesB ns (its.length:Int)=(risesB ns&&decide (ns.length=its.length)):=by
  unfold namesB;congr 1;apply decide_eq_decide.2;omega
 show _=(zeroB f&&(decide (n=0)&&(s.isEmpty&&(namesB ns (its.length:Int)&&rightL its far))));rw[rightV,if_neg (by omega),if_neg (by omega),if_neg (by omega),if_neg (by omega),if_neg (by omega),if_neg (by omega),if_pos h,e];simp only[Bool.and_assoc];rfl
theorem below_tr' {u v w:World} (h1:Below u.heap.size u v) (h2:Below v.heap.size v w):Below u.heap.size u w:=h1.trans (h2.mono h1.size)
theorem drewN_below (w:World) (q:Nat):Below w.heap.size w (w.drewN q):=⟨rfl,rfl,rfl,Nat.le_refl _,fun _ _=>rfl⟩
theorem rright_step (d:Nat) (v:VT) (cs:Array Value) (far:Nat) (w:World) (hfar:far≤1000)
  (ih:∀ (v:VT) (cs:Array Value) (far:Nat) (w:World),far≤1000→ValAt w d v cs→Calls Tryz.prog 110 #[.agg cs,.int .i64 (far:Int)] w (Gives (.bool (rightV v far)) w))
  (h:ValAt w (d+1) v cs):Calls Tryz.prog 110 #[.agg cs,.int .i64 ((far:Int)+1)] w (Gives (.bool (rightV v (far+1))) w):=by
 obtain⟨pp,pc,p,cap,hca⟩:=h.sixS;have hia:=h.boxes hca;obtain⟨hsa,_,hNb⟩:=h.strs hca;have hzz:=fun(x:World) (hx:ValAt x (d+1) v cs)=>rzeroV_any (d+1) v cs x hx
 have hvk:=fun(x:World) (hx:Below w.heap.size w x)=>h.kept hx
 subst hca;have hr1:=fun h=>rt1 (v:=v) (far:=far) h
 have hr2:=fun h=>rt2 (v:=v) (far:=far) h
 have hr3:=fun h=>rt3 (v:=v) (far:=far) h
 have hr4:=fun h=>rt4 (v:=v) (far:=far) h
 have hr5:=fun h=>rt5 (v:=v) (far:=far) h
 have hr6:=fun h=>rt6 (v:=v) (far:=far) h
 have hrx:=fun h1 h2 h3 h4 h5 h6=>rightX (v:=v) (f:=far+1) h1 h2 h3 h4 h5 h6
 have hpl:plB v=true↔v.items.length=0∧v.names.length=0:=by unfold plB;rw[decide_eq_true_eq]
 have hse:(⟨v.str.toArray⟩:ByteArray).toList.isEmpty=v.str.isEmpty:=by rw[ByteArray.toList_eq]
 have hsl:(⟨v.str.toArray⟩:ByteArray).size=v.str.length:=by show v.str.toArray.size=_;simp
 have hstep:=fun i (hi:i<v.items.length) far=>rightL_drop (l:=v.items) (i:=i) (f:=far) hi
 have hend:=fun i (hi:v.items.length≤i) far=>rightL_end (l:=v.items) (i:=i) (f:=far) hi
 have hnm:=fun x (hx:Below w.heap.size w x)=>rnames_any v.names _ (v.items.length:Int) x (hsa.kept hx)
 generalize rightV v (far+1)=R at *;generalize zeroB v.flt=bz at *;generalize plB v=bp at *;generalize v.flt=fa at *;generalize v.kind=K at *;generalize v.num=X at *;generalize (⟨v.str.toArray⟩:ByteArray)=S at *;generalize v.str.isEmpty=se at *;generalize v.str.length=sl at *;generalize namesB v.names (v.items.length:Int)=bn at *;generalize v.names.length=M at *;generalize v.items=its at *;generalize its.length=N at *;have HSe:=zh hse;have HSl:=zh hsl;have HPl:=zh hpl;have HStep:=zh hstep;have HEnd:=zh hend;have hB:Below w.heap.size w (w.alloc (.cells #[.int .i64 K,.int .i64 X,.float .f64 fa,.string S,.slice pp M pc,.slice p N cap] 26)):=(Below.refl _ _).alloc (Nat.le_refl _) _;have hnA:(w.alloc (.cells #[.int .i64 K,.int .i64 X,.float .f64 fa,.string S,.slice pp M pc,.slice p N cap] 26)).heap[w.heap.size]?=some (.cells #[.int .i64 K,.int .i64 X,.float .f64 fa,.string S,.slice pp M pc,.slice p N cap] 26 (0,0)):=heap_alloc_new w _;have HBl:=zh (fun x (h:Below (w.alloc (.cells #[.int .i64 K,.int .i64 X,.float .f64 fa,.string S,.slice pp M pc,.slice p N cap] 26)).heap.size (w.alloc (.cells #[.int .i64 K,.int .i64 X,.float .f64 fa,.string S,.slice pp M pc,.slice p N cap] 26)) x)=>(show x.heap[w.heap.size]?=some (.cells #[.int .i64 K,.int .i64 X,.float .f64 fa,.string S,.slice pp M pc,.slice p N cap] 26 (0,0)) from(h.block _ (lt_of_block hnA)).trans hnA));have HIA:=zh (fun i (hi:i<N) x (h:Below (w.alloc (.cells #[.int .i64 K,.int .i64 X,.float .f64 fa,.string S,.slice pp M pc,.slice p N cap] 26)).heap.size (w.alloc (.cells #[.int .i64 K,.int .i64 X,.float .f64 fa,.string S,.slice pp M pc,.slice p N cap] 26)) x)=>(show ∃ g off,p=some ⟨g,off,none⟩∧∃ ds,ValAt x d (its.getD i noVT) ds∧x.cell? ⟨g,off+i*6+0,none⟩=ds[0]?∧x.cell? ⟨g,off+i*6+1,none⟩=ds[1]?∧x.cell? ⟨g,off+i*6+2,none⟩=ds[2]?∧x.cell? ⟨g,off+i*6+3,none⟩=ds[3]?∧x.cell? ⟨g,off+i*6+4,none⟩=ds[4]?∧x.cell? ⟨g,off+i*6+5,none⟩=ds[5]? from by
  obtain⟨g,off,h1,h2,ds,h3,h4⟩:=hia i hi;have hx:=hB.trans (h.mono hB.size);have hc:=fun j (hj:j<6)=>(hx.cell (p:=⟨g,off+i*6+j,none⟩) h2).trans (h4 j hj)
  exact⟨g,off,h1,ds,h3.kept hx,hc 0 (by omega),hc 1 (by omega),hc 2 (by omega),hc 3 (by omega),hc 4 (by omega),hc 5 (by omega)⟩))
 have HZ:=zh (fun x (h:Below (w.alloc (.cells #[.int .i64 K,.int .i64 X,.float .f64 fa,.string S,.slice pp M pc,.slice p N cap] 26)).heap.size (w.alloc (.cells #[.int .i64 K,.int .i64 X,.float .f64 fa,.string S,.slice pp M pc,.slice p N cap] 26)) x)=>hzz x (hvk x (hB.trans (h.mono hB.size))));have HNm:=zh (fun x (h:Below (w.alloc (.cells #[.int .i64 K,.int .i64 X,.float .f64 fa,.string S,.slice pp M pc,.slice p N cap] 26)).heap.size (w.alloc (.cells #[.int .i64 K,.int .i64 X,.float .f64 fa,.string S,.slice pp M pc,.slice p N cap] 26)) x)=>(show Calls Tryz.prog 136 #[.slice pp M pc,.int .i64 (N:Int)] x (Gives (.bool bn) x) from(hnm x (hB.trans (h.mono hB.size))).mono (fun e w' h=>by obtain⟨h1,q,rfl⟩:=h;exact⟨h1,drewN_below x q⟩)));have IH:=zh ih;have HR1:=zh hr1;have HR2:=zh hr2;have HR3:=zh hr3;have HR4:=zh hr4;have HR5:=zh hr5;have HR6:=zh hr6;have HRX:=zh hrx;have tf:decide ((far:Int)+1<1)=false:=by simp;omega
 have tf2:(0:Int)≤(far:Int):=by omega
 have tf3:(far:Int)≤1000:=by omega
 clear hnA hia hsa hzz hvk h ih hr1 hr2 hr3 hr4 hr5 hr6 hrx hpl hse hsl hstep hend hnm;generalize hgh:w.heap.size=H at *;have HH:=zh hgh;clear hgh;go_in;go_upto_region 1 with (fail)
 rw[HH.out];generalize w.alloc (.cells #[.int .i64 K,.int .i64 X,.float .f64 fa,.string S,.slice pp M pc,.slice p N cap] 26)=W1 at *;have nA:=(HBl.out _ (Below.refl _ _));obtain⟨a0,a1,a2,a3,a4,a5⟩:=cells6 nA;clear nA;go_cut [5] (fun v wx=>v=.bool bp∧Below W1.heap.size W1 wx)
 case first =>
  by_cases hN:N=0
  ·have n0:((N:Int)==0)=true:=by rw[hN];rfl
   by_cases hM:M=0
   ·have m0:((M:Int)==0)=true:=by rw[hM];rfl
    have hb:=zh (HPl.out.2 ⟨hN,hM⟩);go_wp2_with fail
    go_meet;exact⟨by rw[hb.out],Below.refl _ _⟩
   ·have m0:((M:Int)==0)=false:=beq_eq_false_iff_ne.2 (by omega);have hb:=zh (show bp=false from by rw[←Bool.not_eq_true,HPl.out];exact fun h=>hM h.2);go_wp2_with fail
    go_meet;exact⟨by rw[hb.out],Below.refl _ _⟩
  ·have n0:((N:Int)==0)=false:=beq_eq_false_iff_ne.2 (by omega);have hb:=zh (show bp=false from by rw[←Bool.not_eq_true,HPl.out];exact fun h=>hN h.1);go_wp2_with fail
   go_meet;exact⟨by rw[hb.out],Below.refl _ _⟩
 case rest =>
  obtain⟨rfl,hbx⟩:=hcut;clear a0 a1 a2 a3 a4 a5;have nA:=(HBl.out _ hbx);obtain⟨a0,a1,a2,a3,a4,a5⟩:=cells6 nA;clear nA;clear HPl;by_cases k1:K=1
  ·have hr:=HR1.out k1;subst k1;cases bp
   ·have HR:=zh hr;clear hr;go_wp2_with fail
    go_ret;exact⟨ret_val (by rw[HR.out];rfl),by rw[HH.out];exact hB.trans (hbx.mono (by have:=hB.size;rw[HH.out]at this;exact this))⟩
   ·cases bz
    ·have HR:=zh hr;clear hr;go_wp2_with fail
     refine(HZ.out _ hbx).mono ?_;rintro e w2 ⟨rfl,hb2⟩;have nA:=(HBl.out _ (below_tr' hbx hb2));have a0:w2.cell? ⟨H,0,none⟩=some (.int .i64 1):=by rw[zc nA];rfl
     have a1:w2.cell? ⟨H,1,none⟩=some (.int .i64 X):=by rw[zc nA];rfl
     have a2:w2.cell? ⟨H,2,none⟩=some (.float .f64 fa):=by rw[zc nA];rfl
     have a3:w2.cell? ⟨H,3,none⟩=some (.string S):=by rw[zc nA];rfl
     have a4:w2.cell? ⟨H,4,none⟩=some (.slice pp M pc):=by rw[zc nA];rfl
     have a5:w2.cell? ⟨H,5,none⟩=some (.slice p N cap):=by rw[zc nA];rfl
     clear nA;go_wp2_with fail
     go_ret;exact⟨ret_val (by rw[HR.out];rfl),by rw[HH.out];exact hB.trans ((below_tr' hbx hb2).mono (by have:=hB.size;rw[HH.out]at this;exact this))⟩
    ·by_cases hs:S.toList=[]
     ·have s1:S.toList.isEmpty=true:=by rw[hs];rfl
      rw[←HSe.out,s1]at hr;by_cases hx:X=0
      ·have n0:(X==0)=true:=by rw[hx];rfl
       rw[decide_eq_true (.inl hx)]at hr;clear hx;have HR:=zh hr;clear hr;go_wp2_with fail
       refine(HZ.out _ hbx).mono ?_;rintro e w2 ⟨rfl,hb2⟩;have nA:=(HBl.out _ (below_tr' hbx hb2));have a0:w2.cell? ⟨H,0,none⟩=some (.int .i64 1):=by rw[zc nA];rfl
       have a1:w2.cell? ⟨H,1,none⟩=some (.int .i64 X):=by rw[zc nA];rfl
       have a2:w2.cell? ⟨H,2,none⟩=some (.float .f64 fa):=by rw[zc nA];rfl
       have a3:w2.cell? ⟨H,3,none⟩=some (.string S):=by rw[zc nA];rfl
       have a4:w2.cell? ⟨H,4,none⟩=some (.slice pp M pc):=by rw[zc nA];rfl
       have a5:w2.cell? ⟨H,5,none⟩=some (.slice p N cap):=by rw[zc nA];rfl
       clear nA;go_wp2_with fail
       go_ret;exact⟨ret_val (by rw[HR.out];rfl),by rw[HH.out];exact hB.trans ((below_tr' hbx hb2).mono (by have:=hB.size;rw[HH.out]at this;exact this))⟩
      ·have n0:(X==0)=false:=beq_eq_false_iff_ne.2 hx;by_cases hy:X=1
       ·have n1:(X==1)=true:=by rw[hy];rfl
        rw[decide_eq_true (.inr hy)]at hr;clear hx hy;have HR:=zh hr;clear hr;go_wp2_with fail
        refine(HZ.out _ hbx).mono ?_;rintro e w2 ⟨rfl,hb2⟩;have nA:=(HBl.out _ (below_tr' hbx hb2));have a0:w2.cell? ⟨H,0,none⟩=some (.int .i64 1):=by rw[zc nA];rfl
        have a1:w2.cell? ⟨H,1,none⟩=some (.int .i64 X):=by rw[zc nA];rfl
        have a2:w2.cell? ⟨H,2,none⟩=some (.float .f64 fa):=by rw[zc nA];rfl
        have a3:w2.cell? ⟨H,3,none⟩=some (.string S):=by rw[zc nA];rfl
        have a4:w2.cell? ⟨H,4,none⟩=some (.slice pp M pc):=by rw[zc nA];rfl
        have a5:w2.cell? ⟨H,5,none⟩=some (.slice p N cap):=by rw[zc nA];rfl
        clear nA;go_wp2_with fail
        go_ret;exact⟨ret_val (by rw[HR.out];rfl),by rw[HH.out];exact hB.trans ((below_tr' hbx hb2).mono (by have:=hB.size;rw[HH.out]at this;exact this))⟩
       ·have n1:(X==1)=false:=beq_eq_false_iff_ne.2 hy;rw[decide_eq_false (fun h=>h.elim hx hy)]at hr;clear hx hy;have HR:=zh hr;clear hr;go_wp2_with fail
        refine(HZ.out _ hbx).mono ?_;rintro e w2 ⟨rfl,hb2⟩;have nA:=(HBl.out _ (below_tr' hbx hb2));have a0:w2.cell? ⟨H,0,none⟩=some (.int .i64 1):=by rw[zc nA];rfl
        have a1:w2.cell? ⟨H,1,none⟩=some (.int .i64 X):=by rw[zc nA];rfl
        have a2:w2.cell? ⟨H,2,none⟩=some (.float .f64 fa):=by rw[zc nA];rfl
        have a3:w2.cell? ⟨H,3,none⟩=some (.string S):=by rw[zc nA];rfl
        have a4:w2.cell? ⟨H,4,none⟩=some (.slice pp M pc):=by rw[zc nA];rfl
        have a5:w2.cell? ⟨H,5,none⟩=some (.slice p N cap):=by rw[zc nA];rfl
        clear nA;go_wp2_with fail
        go_ret;exact⟨ret_val (by rw[HR.out];rfl),by rw[HH.out];exact hB.trans ((below_tr' hbx hb2).mono (by have:=hB.size;rw[HH.out]at this;exact this))⟩
     ·have s1:S.toList.isEmpty=false:=by cases h:S.toList with|nil=>exact absurd h hs|cons _ _=>rfl
      rw[←HSe.out,s1]at hr;have HR:=zh hr;clear hr;go_wp2_with fail
      refine(HZ.out _ hbx).mono ?_;rintro e w2 ⟨rfl,hb2⟩;have nA:=(HBl.out _ (below_tr' hbx hb2));have a0:w2.cell? ⟨H,0,none⟩=some (.int .i64 1):=by rw[zc nA];rfl
      have a1:w2.cell? ⟨H,1,none⟩=some (.int .i64 X):=by rw[zc nA];rfl
      have a2:w2.cell? ⟨H,2,none⟩=some (.float .f64 fa):=by rw[zc nA];rfl
      have a3:w2.cell? ⟨H,3,none⟩=some (.string S):=by rw[zc nA];rfl
      have a4:w2.cell? ⟨H,4,none⟩=some (.slice pp M pc):=by rw[zc nA];rfl
      have a5:w2.cell? ⟨H,5,none⟩=some (.slice p N cap):=by rw[zc nA];rfl
      clear nA;go_wp2_with fail
      go_ret;exact⟨ret_val (by rw[HR.out];rfl),by rw[HH.out];exact hB.trans ((below_tr' hbx hb2).mono (by have:=hB.size;rw[HH.out]at this;exact this))⟩
  by_cases k2:K=2
  ·have hr:=HR2.out k2;clear k1;subst k2;cases bp
   ·have HR:=zh hr;clear hr;go_wp2_with fail
    go_ret;exact⟨ret_val (by rw[HR.out];rfl),by rw[HH.out];exact hB.trans (hbx.mono (by have:=hB.size;rw[HH.out]at this;exact this))⟩
   ·cases bz
    ·have HR:=zh hr;clear hr;go_wp2_with fail
     refine(HZ.out _ hbx).mono ?_;rintro e w2 ⟨rfl,hb2⟩;have nA:=(HBl.out _ (below_tr' hbx hb2));have a0:w2.cell? ⟨H,0,none⟩=some (.int .i64 2):=by rw[zc nA];rfl
     have a1:w2.cell? ⟨H,1,none⟩=some (.int .i64 X):=by rw[zc nA];rfl
     have a2:w2.cell? ⟨H,2,none⟩=some (.float .f64 fa):=by rw[zc nA];rfl
     have a3:w2.cell? ⟨H,3,none⟩=some (.string S):=by rw[zc nA];rfl
     have a4:w2.cell? ⟨H,4,none⟩=some (.slice pp M pc):=by rw[zc nA];rfl
     have a5:w2.cell? ⟨H,5,none⟩=some (.slice p N cap):=by rw[zc nA];rfl
     clear nA;go_wp2_with fail
     go_ret;exact⟨ret_val (by rw[HR.out];rfl),by rw[HH.out];exact hB.trans ((below_tr' hbx hb2).mono (by have:=hB.size;rw[HH.out]at this;exact this))⟩
    ·by_cases hs:S.toList=[]
     ·have s1:S.toList.isEmpty=true:=by rw[hs];rfl
      rw[←HSe.out,s1]at hr;have HR:=zh hr;clear hr;go_wp2_with fail
      refine(HZ.out _ hbx).mono ?_;rintro e w2 ⟨rfl,hb2⟩;have nA:=(HBl.out _ (below_tr' hbx hb2));have a0:w2.cell? ⟨H,0,none⟩=some (.int .i64 2):=by rw[zc nA];rfl
      have a1:w2.cell? ⟨H,1,none⟩=some (.int .i64 X):=by rw[zc nA];rfl
      have a2:w2.cell? ⟨H,2,none⟩=some (.float .f64 fa):=by rw[zc nA];rfl
      have a3:w2.cell? ⟨H,3,none⟩=some (.string S):=by rw[zc nA];rfl
      have a4:w2.cell? ⟨H,4,none⟩=some (.slice pp M pc):=by rw[zc nA];rfl
      have a5:w2.cell? ⟨H,5,none⟩=some (.slice p N cap):=by rw[zc nA];rfl
      clear nA;go_wp2_with fail
      go_ret;exact⟨ret_val (by rw[HR.out];rfl),by rw[HH.out];exact hB.trans ((below_tr' hbx hb2).mono (by have:=hB.size;rw[HH.out]at this;exact this))⟩
     ·have s1:S.toList.isEmpty=false:=by cases h:S.toList with|nil=>exact absurd h hs|cons _ _=>rfl
      rw[←HSe.out,s1]at hr;have HR:=zh hr;clear hr;go_wp2_with fail
      refine(HZ.out _ hbx).mono ?_;rintro e w2 ⟨rfl,hb2⟩;have nA:=(HBl.out _ (below_tr' hbx hb2));have a0:w2.cell? ⟨H,0,none⟩=some (.int .i64 2):=by rw[zc nA];rfl
      have a1:w2.cell? ⟨H,1,none⟩=some (.int .i64 X):=by rw[zc nA];rfl
      have a2:w2.cell? ⟨H,2,none⟩=some (.float .f64 fa):=by rw[zc nA];rfl
      have a3:w2.cell? ⟨H,3,none⟩=some (.string S):=by rw[zc nA];rfl
      have a4:w2.cell? ⟨H,4,none⟩=some (.slice pp M pc):=by rw[zc nA];rfl
      have a5:w2.cell? ⟨H,5,none⟩=some (.slice p N cap):=by rw[zc nA];rfl
      clear nA;go_wp2_with fail
      go_ret;exact⟨ret_val (by rw[HR.out];rfl),by rw[HH.out];exact hB.trans ((below_tr' hbx hb2).mono (by have:=hB.size;rw[HH.out]at this;exact this))⟩
  by_cases k3:K=3
  ·have hr:=HR3.out k3;clear k1 k2;subst k3;cases bp
   ·have HR:=zh hr;clear hr;go_wp2_with fail
    go_ret;exact⟨ret_val (by rw[HR.out];rfl),by rw[HH.out];exact hB.trans (hbx.mono (by have:=hB.size;rw[HH.out]at this;exact this))⟩
   ·by_cases hx:X=0
    ·have n0:(X==0)=true:=by rw[hx];rfl
     rw[decide_eq_true hx]at hr;clear hx;by_cases hs:S.toList=[]
     ·have s1:S.toList.isEmpty=true:=by rw[hs];rfl
      rw[←HSe.out,s1]at hr;have HR:=zh hr;clear hr;go_wp2_with fail
      go_ret;exact⟨ret_val (by rw[HR.out];rfl),by rw[HH.out];exact hB.trans (hbx.mono (by have:=hB.size;rw[HH.out]at this;exact this))⟩
     ·have s1:S.toList.isEmpty=false:=by cases h:S.toList with|nil=>exact absurd h hs|cons _ _=>rfl
      rw[←HSe.out,s1]at hr;have HR:=zh hr;clear hr;go_wp2_with fail
      go_ret;exact⟨ret_val (by rw[HR.out];rfl),by rw[HH.out];exact hB.trans (hbx.mono (by have:=hB.size;rw[HH.out]at this;exact this))⟩
    ·have n0:(X==0)=false:=beq_eq_false_iff_ne.2 hx;rw[decide_eq_false hx]at hr;clear hx;have HR:=zh hr;clear hr;go_wp2_with fail
     go_ret;exact⟨ret_val (by rw[HR.out];rfl),by rw[HH.out];exact hB.trans (hbx.mono (by have:=hB.size;rw[HH.out]at this;exact this))⟩
  by_cases k4:K=4
  ·have hr:=HR4.out k4;clear k1 k2 k3;subst k4;cases bp
   ·have HR:=zh hr;clear hr;go_wp2_with fail
    go_ret;exact⟨ret_val (by rw[HR.out];rfl),by rw[HH.out];exact hB.trans (hbx.mono (by have:=hB.size;rw[HH.out]at this;exact this))⟩
   ·cases bz
    ·have HR:=zh hr;clear hr;go_wp2_with fail
     refine(HZ.out _ hbx).mono ?_;rintro e w2 ⟨rfl,hb2⟩;have nA:=(HBl.out _ (below_tr' hbx hb2));have a0:w2.cell? ⟨H,0,none⟩=some (.int .i64 4):=by rw[zc nA];rfl
     have a1:w2.cell? ⟨H,1,none⟩=some (.int .i64 X):=by rw[zc nA];rfl
     have a2:w2.cell? ⟨H,2,none⟩=some (.float .f64 fa):=by rw[zc nA];rfl
     have a3:w2.cell? ⟨H,3,none⟩=some (.string S):=by rw[zc nA];rfl
     have a4:w2.cell? ⟨H,4,none⟩=some (.slice pp M pc):=by rw[zc nA];rfl
     have a5:w2.cell? ⟨H,5,none⟩=some (.slice p N cap):=by rw[zc nA];rfl
     clear nA;go_wp2_with fail
     go_ret;exact⟨ret_val (by rw[HR.out];rfl),by rw[HH.out];exact hB.trans ((below_tr' hbx hb2).mono (by have:=hB.size;rw[HH.out]at this;exact this))⟩
    ·by_cases hx:X=0
     ·have n0:(X==0)=true:=by rw[hx];rfl
      rw[decide_eq_true hx]at hr;clear hx;by_cases hl:S.size≤200
      ·have l0:decide ((S.size:Int)≤200)=true:=by simp;omega
       rw[←HSl.out,decide_eq_true hl]at hr;have HR:=zh hr;clear hr;go_wp2_with fail
       refine(HZ.out _ hbx).mono ?_;rintro e w2 ⟨rfl,hb2⟩;have nA:=(HBl.out _ (below_tr' hbx hb2));have a0:w2.cell? ⟨H,0,none⟩=some (.int .i64 4):=by rw[zc nA];rfl
       have a1:w2.cell? ⟨H,1,none⟩=some (.int .i64 X):=by rw[zc nA];rfl
       have a2:w2.cell? ⟨H,2,none⟩=some (.float .f64 fa):=by rw[zc nA];rfl
       have a3:w2.cell? ⟨H,3,none⟩=some (.string S):=by rw[zc nA];rfl
       have a4:w2.cell? ⟨H,4,none⟩=some (.slice pp M pc):=by rw[zc nA];rfl
       have a5:w2.cell? ⟨H,5,none⟩=some (.slice p N cap):=by rw[zc nA];rfl
       clear nA;go_wp2_with fail
       go_ret;exact⟨ret_val (by rw[HR.out];rfl),by rw[HH.out];exact hB.trans ((below_tr' hbx hb2).mono (by have:=hB.size;rw[HH.out]at this;exact this))⟩
      ·have l0:decide ((S.size:Int)≤200)=false:=by simp;omega
       rw[←HSl.out,decide_eq_false hl]at hr;have HR:=zh hr;clear hr;go_wp2_with fail
       refine(HZ.out _ hbx).mono ?_;rintro e w2 ⟨rfl,hb2⟩;have nA:=(HBl.out _ (below_tr' hbx hb2));have a0:w2.cell? ⟨H,0,none⟩=some (.int .i64 4):=by rw[zc nA];rfl
       have a1:w2.cell? ⟨H,1,none⟩=some (.int .i64 X):=by rw[zc nA];rfl
       have a2:w2.cell? ⟨H,2,none⟩=some (.float .f64 fa):=by rw[zc nA];rfl
       have a3:w2.cell? ⟨H,3,none⟩=some (.string S):=by rw[zc nA];rfl
       have a4:w2.cell? ⟨H,4,none⟩=some (.slice pp M pc):=by rw[zc nA];rfl
       have a5:w2.cell? ⟨H,5,none⟩=some (.slice p N cap):=by rw[zc nA];rfl
       clear nA;go_wp2_with fail
       go_ret;exact⟨ret_val (by rw[HR.out];rfl),by rw[HH.out];exact hB.trans ((below_tr' hbx hb2).mono (by have:=hB.size;rw[HH.out]at this;exact this))⟩
     ·have n0:(X==0)=false:=beq_eq_false_iff_ne.2 hx;rw[decide_eq_false hx]at hr;clear hx;have HR:=zh hr;clear hr;go_wp2_with fail
      refine(HZ.out _ hbx).mono ?_;rintro e w2 ⟨rfl,hb2⟩;have nA:=(HBl.out _ (below_tr' hbx hb2));have a0:w2.cell? ⟨H,0,none⟩=some (.int .i64 4):=by rw[zc nA];rfl
      have a1:w2.cell? ⟨H,1,none⟩=some (.int .i64 X):=by rw[zc nA];rfl
      have a2:w2.cell? ⟨H,2,none⟩=some (.float .f64 fa):=by rw[zc nA];rfl
      have a3:w2.cell? ⟨H,3,none⟩=some (.string S):=by rw[zc nA];rfl
      have a4:w2.cell? ⟨H,4,none⟩=some (.slice pp M pc):=by rw[zc nA];rfl
      have a5:w2.cell? ⟨H,5,none⟩=some (.slice p N cap):=by rw[zc nA];rfl
      clear nA;go_wp2_with fail
      go_ret;exact⟨ret_val (by rw[HR.out];rfl),by rw[HH.out];exact hB.trans ((below_tr' hbx hb2).mono (by have:=hB.size;rw[HH.out]at this;exact this))⟩
  by_cases k5:K=5
  ·have hr:=HR5.out k5;clear k1 k2 k3 k4;subst k5;cases bz
   ·have HR:=zh hr;clear hr;go_wp2_with fail
    refine(HZ.out _ hbx).mono ?_;rintro e w2 ⟨rfl,hb2⟩;have nA:=(HBl.out _ (below_tr' hbx hb2));have a0:w2.cell? ⟨H,0,none⟩=some (.int .i64 5):=by rw[zc nA];rfl
    have a1:w2.cell? ⟨H,1,none⟩=some (.int .i64 X):=by rw[zc nA];rfl
    have a2:w2.cell? ⟨H,2,none⟩=some (.float .f64 fa):=by rw[zc nA];rfl
    have a3:w2.cell? ⟨H,3,none⟩=some (.string S):=by rw[zc nA];rfl
    have a4:w2.cell? ⟨H,4,none⟩=some (.slice pp M pc):=by rw[zc nA];rfl
    have a5:w2.cell? ⟨H,5,none⟩=some (.slice p N cap):=by rw[zc nA];rfl
    clear nA;go_wp2_with fail
    go_ret;exact⟨ret_val (by rw[HR.out];rfl),by rw[HH.out];exact hB.trans ((below_tr' hbx hb2).mono (by have:=hB.size;rw[HH.out]at this;exact this))⟩
   ·by_cases hx:X=0
    ·have n0:(X != 0)=false:=by rw[hx];rfl
     rw[decide_eq_true hx]at hr;clear hx;by_cases hs:S.toList=[]
     ·have s1:S.toList.isEmpty=true:=by rw[hs];rfl
      rw[←HSe.out,s1]at hr;by_cases hm:M=0
      ·have m1:decide ((0:Int)<(M:Int))=false:=by simp;omega
       have m2:¬ 0<M:=by omega
       rw[decide_eq_true hm]at hr;clear hm;simp only[Bool.true_and]at hr;have HR:=zh hr;clear hr;go_wp2_with fail
       refine(HZ.out _ hbx).mono ?_;rintro e w2 ⟨rfl,hb2⟩;have nA:=(HBl.out _ (below_tr' hbx hb2));have a0:w2.cell? ⟨H,0,none⟩=some (.int .i64 5):=by rw[zc nA];rfl
       have a1:w2.cell? ⟨H,1,none⟩=some (.int .i64 X):=by rw[zc nA];rfl
       have a2:w2.cell? ⟨H,2,none⟩=some (.float .f64 fa):=by rw[zc nA];rfl
       have a3:w2.cell? ⟨H,3,none⟩=some (.string S):=by rw[zc nA];rfl
       have a4:w2.cell? ⟨H,4,none⟩=some (.slice pp M pc):=by rw[zc nA];rfl
       have a5:w2.cell? ⟨H,5,none⟩=some (.slice p N cap):=by rw[zc nA];rfl
       clear nA;go_wp2_with fail
       have hB2:=(below_tr' hbx hb2);clear a0 a1 a2 a3 a4 a5;clear hbx hb2;go_loopw [6] (fun iv wr=>∃ i:Nat,iv=.int .i64 (i:Int)∧i≤N∧Hid (R=rightL (its.drop i) far)∧Below W1.heap.size W1 wr) (fun iv _=>N - (intOf iv).toNat)
       case atStart=>exact⟨0,rfl,Nat.zero_le _,by show _=_;rw[List.drop_zero];exact HR.out,hB2⟩
       case round =>
        clear hB2 HR;obtain⟨i,rfl,hi,hR,hb⟩:=hrel;have nA:=(HBl.out _ hb);have a0:wr.cell? ⟨H,0,none⟩=some (.int .i64 5):=by rw[zc nA];rfl
        have a1:wr.cell? ⟨H,1,none⟩=some (.int .i64 X):=by rw[zc nA];rfl
        have a2:wr.cell? ⟨H,2,none⟩=some (.float .f64 fa):=by rw[zc nA];rfl
        have a3:wr.cell? ⟨H,3,none⟩=some (.string S):=by rw[zc nA];rfl
        have a4:wr.cell? ⟨H,4,none⟩=some (.slice pp M pc):=by rw[zc nA];rfl
        have a5:wr.cell? ⟨H,5,none⟩=some (.slice p N cap):=by rw[zc nA];rfl
        clear nA;by_cases hlt:i<N
        ·have t0:decide ((i:Int)<(N:Int))=true:=by simp;omega
         obtain⟨gA,offA,rfl,ds,hva,x0,x1,x2,x3,x4,x5⟩:=HIA.out i hlt _ hb;obtain⟨q1,r1,s1,v1,rfl⟩:=hva.sixS;simp at x0 x1 x2 x3 x4 x5;have i1:(0:Int)≤(i:Int):=by omega
         have i2:(i:Int)<(N:Int):=by omega
         have HQ:=IH.out _ _ far wr hfar hva;have HSt:=HStep.out i hlt far;clear hva;cases hrv:rightV (its.getD i noVT) far
         ·rw[hrv]at HQ HSt;have HQ':=zh HQ;have HSt':=zh HSt;clear HQ HSt hrv;go_wp2_with fail
          refine(HQ'.out).mono ?_;rintro e w3 ⟨rfl,hb3⟩;go_wp2_with fail
          go_ret;exact⟨ret_val (by rw[hR.out,HSt'.out];rfl),by rw[HH.out];exact hB.trans ((below_tr' hb hb3).mono (by have:=hB.size;rw[HH.out]at this;exact this))⟩
         ·rw[hrv]at HQ HSt;have HQ':=zh HQ;have HSt':=zh HSt;clear HQ HSt hrv;go_wp2_with fail
          refine(HQ'.out).mono ?_;rintro e w3 ⟨rfl,hb3⟩;go_wp2_with fail
          go_roundw
          case rel=>exact⟨i+1,by go_num,by omega,by show _=_;rw[hR.out,HSt'.out,Bool.true_and],below_tr' hb hb3⟩
          case measure=>simp[intOf];omega
        ·have t0:decide ((i:Int)<(N:Int))=false:=by simp;omega
         have HE:=zh (HEnd.out i (by omega) far);go_wp2_with fail
         go_ret;exact⟨ret_val (by rw[hR.out,HE.out];rfl),by rw[HH.out];exact hB.trans (hb.mono (by have:=hB.size;rw[HH.out]at this;exact this))⟩
      ·have m1:decide ((0:Int)<(M:Int))=true:=by simp;omega
       have m2:0<M:=by omega
       rw[decide_eq_false hm]at hr;clear hm;have HR:=zh hr;clear hr;go_wp2_with fail
       refine(HZ.out _ hbx).mono ?_;rintro e w2 ⟨rfl,hb2⟩;have nA:=(HBl.out _ (below_tr' hbx hb2));have a0:w2.cell? ⟨H,0,none⟩=some (.int .i64 5):=by rw[zc nA];rfl
       have a1:w2.cell? ⟨H,1,none⟩=some (.int .i64 X):=by rw[zc nA];rfl
       have a2:w2.cell? ⟨H,2,none⟩=some (.float .f64 fa):=by rw[zc nA];rfl
       have a3:w2.cell? ⟨H,3,none⟩=some (.string S):=by rw[zc nA];rfl
       have a4:w2.cell? ⟨H,4,none⟩=some (.slice pp M pc):=by rw[zc nA];rfl
       have a5:w2.cell? ⟨H,5,none⟩=some (.slice p N cap):=by rw[zc nA];rfl
       clear nA;go_wp2_with fail
       go_ret;exact⟨ret_val (by rw[HR.out];rfl),by rw[HH.out];exact hB.trans ((below_tr' hbx hb2).mono (by have:=hB.size;rw[HH.out]at this;exact this))⟩
     ·have s1:S.toList.isEmpty=false:=by cases h:S.toList with|nil=>exact absurd h hs|cons _ _=>rfl
      rw[←HSe.out,s1]at hr;have HR:=zh hr;clear hr;go_wp2_with fail
      refine(HZ.out _ hbx).mono ?_;rintro e w2 ⟨rfl,hb2⟩;have nA:=(HBl.out _ (below_tr' hbx hb2));have a0:w2.cell? ⟨H,0,none⟩=some (.int .i64 5):=by rw[zc nA];rfl
      have a1:w2.cell? ⟨H,1,none⟩=some (.int .i64 X):=by rw[zc nA];rfl
      have a2:w2.cell? ⟨H,2,none⟩=some (.float .f64 fa):=by rw[zc nA];rfl
      have a3:w2.cell? ⟨H,3,none⟩=some (.string S):=by rw[zc nA];rfl
      have a4:w2.cell? ⟨H,4,none⟩=some (.slice pp M pc):=by rw[zc nA];rfl
      have a5:w2.cell? ⟨H,5,none⟩=some (.slice p N cap):=by rw[zc nA];rfl
      clear nA;go_wp2_with fail
      go_ret;exact⟨ret_val (by rw[HR.out];rfl),by rw[HH.out];exact hB.trans ((below_tr' hbx hb2).mono (by have:=hB.size;rw[HH.out]at this;exact this))⟩
    ·have n0:(X != 0)=true:=by rw[bne_iff_ne];exact hx
     rw[decide_eq_false hx]at hr;clear hx;have HR:=zh hr;clear hr;go_wp2_with fail
     refine(HZ.out _ hbx).mono ?_;rintro e w2 ⟨rfl,hb2⟩;have nA:=(HBl.out _ (below_tr' hbx hb2));have a0:w2.cell? ⟨H,0,none⟩=some (.int .i64 5):=by rw[zc nA];rfl
     have a1:w2.cell? ⟨H,1,none⟩=some (.int .i64 X):=by rw[zc nA];rfl
     have a2:w2.cell? ⟨H,2,none⟩=some (.float .f64 fa):=by rw[zc nA];rfl
     have a3:w2.cell? ⟨H,3,none⟩=some (.string S):=by rw[zc nA];rfl
     have a4:w2.cell? ⟨H,4,none⟩=some (.slice pp M pc):=by rw[zc nA];rfl
     have a5:w2.cell? ⟨H,5,none⟩=some (.slice p N cap):=by rw[zc nA];rfl
     clear nA;go_wp2_with fail
     go_ret;exact⟨ret_val (by rw[HR.out];rfl),by rw[HH.out];exact hB.trans ((below_tr' hbx hb2).mono (by have:=hB.size;rw[HH.out]at this;exact this))⟩
  by_cases k6:K=6
  ·have hr:=HR6.out k6;clear k1 k2 k3 k4 k5;subst k6;cases bz
   ·have HR:=zh hr;clear hr;go_wp2_with fail
    refine(HZ.out _ hbx).mono ?_;rintro e w2 ⟨rfl,hb2⟩;have nA:=(HBl.out _ (below_tr' hbx hb2));have a0:w2.cell? ⟨H,0,none⟩=some (.int .i64 6):=by rw[zc nA];rfl
    have a1:w2.cell? ⟨H,1,none⟩=some (.int .i64 X):=by rw[zc nA];rfl
    have a2:w2.cell? ⟨H,2,none⟩=some (.float .f64 fa):=by rw[zc nA];rfl
    have a3:w2.cell? ⟨H,3,none⟩=some (.string S):=by rw[zc nA];rfl
    have a4:w2.cell? ⟨H,4,none⟩=some (.slice pp M pc):=by rw[zc nA];rfl
    have a5:w2.cell? ⟨H,5,none⟩=some (.slice p N cap):=by rw[zc nA];rfl
    clear nA;go_wp2_with fail
    go_ret;exact⟨ret_val (by rw[HR.out];rfl),by rw[HH.out];exact hB.trans ((below_tr' hbx hb2).mono (by have:=hB.size;rw[HH.out]at this;exact this))⟩
   ·by_cases hx:X=0
    ·have n0:(X != 0)=false:=by rw[hx];rfl
     rw[decide_eq_true hx]at hr;clear hx;by_cases hs:S.toList=[]
     ·have s1:S.toList.isEmpty=true:=by rw[hs];rfl
      rw[←HSe.out,s1]at hr;cases bn
      ·have HR:=zh hr;clear hr;go_wp2_with fail
       refine(HZ.out _ hbx).mono ?_;rintro e w2 ⟨rfl,hb2⟩;have nA:=(HBl.out _ (below_tr' hbx hb2));have a0:w2.cell? ⟨H,0,none⟩=some (.int .i64 6):=by rw[zc nA];rfl
       have a1:w2.cell? ⟨H,1,none⟩=some (.int .i64 X):=by rw[zc nA];rfl
       have a2:w2.cell? ⟨H,2,none⟩=some (.float .f64 fa):=by rw[zc nA];rfl
       have a3:w2.cell? ⟨H,3,none⟩=some (.string S):=by rw[zc nA];rfl
       have a4:w2.cell? ⟨H,4,none⟩=some (.slice pp M pc):=by rw[zc nA];rfl
       have a5:w2.cell? ⟨H,5,none⟩=some (.slice p N cap):=by rw[zc nA];rfl
       clear nA;go_wp2_with fail
       refine(HNm.out _ (below_tr' hbx hb2)).mono ?_;rintro e w3 ⟨rfl,hb3⟩;have nA:=(HBl.out _ (below_tr' (below_tr' hbx hb2) hb3));have a0:w3.cell? ⟨H,0,none⟩=some (.int .i64 6):=by rw[zc nA];rfl
       have a1:w3.cell? ⟨H,1,none⟩=some (.int .i64 X):=by rw[zc nA];rfl
       have a2:w3.cell? ⟨H,2,none⟩=some (.float .f64 fa):=by rw[zc nA];rfl
       have a3:w3.cell? ⟨H,3,none⟩=some (.string S):=by rw[zc nA];rfl
       have a4:w3.cell? ⟨H,4,none⟩=some (.slice pp M pc):=by rw[zc nA];rfl
       have a5:w3.cell? ⟨H,5,none⟩=some (.slice p N cap):=by rw[zc nA];rfl
       clear nA;go_wp2_with fail
       go_ret;exact⟨ret_val (by rw[HR.out];rfl),by rw[HH.out];exact hB.trans ((below_tr' (below_tr' hbx hb2) hb3).mono (by have:=hB.size;rw[HH.out]at this;exact this))⟩
      ·simp only[Bool.true_and]at hr;have HR:=zh hr;clear hr;go_wp2_with fail
       refine(HZ.out _ hbx).mono ?_;rintro e w2 ⟨rfl,hb2⟩;have nA:=(HBl.out _ (below_tr' hbx hb2));have a0:w2.cell? ⟨H,0,none⟩=some (.int .i64 6):=by rw[zc nA];rfl
       have a1:w2.cell? ⟨H,1,none⟩=some (.int .i64 X):=by rw[zc nA];rfl
       have a2:w2.cell? ⟨H,2,none⟩=some (.float .f64 fa):=by rw[zc nA];rfl
       have a3:w2.cell? ⟨H,3,none⟩=some (.string S):=by rw[zc nA];rfl
       have a4:w2.cell? ⟨H,4,none⟩=some (.slice pp M pc):=by rw[zc nA];rfl
       have a5:w2.cell? ⟨H,5,none⟩=some (.slice p N cap):=by rw[zc nA];rfl
       clear nA;go_wp2_with fail
       refine(HNm.out _ (below_tr' hbx hb2)).mono ?_;rintro e w3 ⟨rfl,hb3⟩;have nA:=(HBl.out _ (below_tr' (below_tr' hbx hb2) hb3));have a0:w3.cell? ⟨H,0,none⟩=some (.int .i64 6):=by rw[zc nA];rfl
       have a1:w3.cell? ⟨H,1,none⟩=some (.int .i64 X):=by rw[zc nA];rfl
       have a2:w3.cell? ⟨H,2,none⟩=some (.float .f64 fa):=by rw[zc nA];rfl
       have a3:w3.cell? ⟨H,3,none⟩=some (.string S):=by rw[zc nA];rfl
       have a4:w3.cell? ⟨H,4,none⟩=some (.slice pp M pc):=by rw[zc nA];rfl
       have a5:w3.cell? ⟨H,5,none⟩=some (.slice p N cap):=by rw[zc nA];rfl
       clear nA;go_wp2_with fail
       have hB2:=(below_tr' (below_tr' hbx hb2) hb3);clear a0 a1 a2 a3 a4 a5;clear hbx hb2 hb3;go_loopw [6] (fun iv wr=>∃ i:Nat,iv=.int .i64 (i:Int)∧i≤N∧Hid (R=rightL (its.drop i) far)∧Below W1.heap.size W1 wr) (fun iv _=>N - (intOf iv).toNat)
       case atStart=>exact⟨0,rfl,Nat.zero_le _,by show _=_;rw[List.drop_zero];exact HR.out,hB2⟩
       case round =>
        clear hB2 HR;obtain⟨i,rfl,hi,hR,hb⟩:=hrel;have nA:=(HBl.out _ hb);have a0:wr.cell? ⟨H,0,none⟩=some (.int .i64 6):=by rw[zc nA];rfl
        have a1:wr.cell? ⟨H,1,none⟩=some (.int .i64 X):=by rw[zc nA];rfl
        have a2:wr.cell? ⟨H,2,none⟩=some (.float .f64 fa):=by rw[zc nA];rfl
        have a3:wr.cell? ⟨H,3,none⟩=some (.string S):=by rw[zc nA];rfl
        have a4:wr.cell? ⟨H,4,none⟩=some (.slice pp M pc):=by rw[zc nA];rfl
        have a5:wr.cell? ⟨H,5,none⟩=some (.slice p N cap):=by rw[zc nA];rfl
        clear nA;by_cases hlt:i<N
        ·have t0:decide ((i:Int)<(N:Int))=true:=by simp;omega
         obtain⟨gA,offA,rfl,ds,hva,x0,x1,x2,x3,x4,x5⟩:=HIA.out i hlt _ hb;obtain⟨q1,r1,s1,v1,rfl⟩:=hva.sixS;simp at x0 x1 x2 x3 x4 x5;have i1:(0:Int)≤(i:Int):=by omega
         have i2:(i:Int)<(N:Int):=by omega
         have HQ:=IH.out _ _ far wr hfar hva;have HSt:=HStep.out i hlt far;clear hva;cases hrv:rightV (its.getD i noVT) far
         ·rw[hrv]at HQ HSt;have HQ':=zh HQ;have HSt':=zh HSt;clear HQ HSt hrv;go_wp2_with fail
          refine(HQ'.out).mono ?_;rintro e w3 ⟨rfl,hb3⟩;go_wp2_with fail
          go_ret;exact⟨ret_val (by rw[hR.out,HSt'.out];rfl),by rw[HH.out];exact hB.trans ((below_tr' hb hb3).mono (by have:=hB.size;rw[HH.out]at this;exact this))⟩
         ·rw[hrv]at HQ HSt;have HQ':=zh HQ;have HSt':=zh HSt;clear HQ HSt hrv;go_wp2_with fail
          refine(HQ'.out).mono ?_;rintro e w3 ⟨rfl,hb3⟩;go_wp2_with fail
          go_roundw
          case rel=>exact⟨i+1,by go_num,by omega,by show _=_;rw[hR.out,HSt'.out,Bool.true_and],below_tr' hb hb3⟩
          case measure=>simp[intOf];omega
        ·have t0:decide ((i:Int)<(N:Int))=false:=by simp;omega
         have HE:=zh (HEnd.out i (by omega) far);go_wp2_with fail
         go_ret;exact⟨ret_val (by rw[hR.out,HE.out];rfl),by rw[HH.out];exact hB.trans (hb.mono (by have:=hB.size;rw[HH.out]at this;exact this))⟩
     ·have s1:S.toList.isEmpty=false:=by cases h:S.toList with|nil=>exact absurd h hs|cons _ _=>rfl
      rw[←HSe.out,s1]at hr;have HR:=zh hr;clear hr;go_wp2_with fail
      refine(HZ.out _ hbx).mono ?_;rintro e w2 ⟨rfl,hb2⟩;have nA:=(HBl.out _ (below_tr' hbx hb2));have a0:w2.cell? ⟨H,0,none⟩=some (.int .i64 6):=by rw[zc nA];rfl
      have a1:w2.cell? ⟨H,1,none⟩=some (.int .i64 X):=by rw[zc nA];rfl
      have a2:w2.cell? ⟨H,2,none⟩=some (.float .f64 fa):=by rw[zc nA];rfl
      have a3:w2.cell? ⟨H,3,none⟩=some (.string S):=by rw[zc nA];rfl
      have a4:w2.cell? ⟨H,4,none⟩=some (.slice pp M pc):=by rw[zc nA];rfl
      have a5:w2.cell? ⟨H,5,none⟩=some (.slice p N cap):=by rw[zc nA];rfl
      clear nA;go_wp2_with fail
      go_ret;exact⟨ret_val (by rw[HR.out];rfl),by rw[HH.out];exact hB.trans ((below_tr' hbx hb2).mono (by have:=hB.size;rw[HH.out]at this;exact this))⟩
    ·have n0:(X != 0)=true:=by rw[bne_iff_ne];exact hx
     rw[decide_eq_false hx]at hr;clear hx;have HR:=zh hr;clear hr;go_wp2_with fail
     refine(HZ.out _ hbx).mono ?_;rintro e w2 ⟨rfl,hb2⟩;have nA:=(HBl.out _ (below_tr' hbx hb2));have a0:w2.cell? ⟨H,0,none⟩=some (.int .i64 6):=by rw[zc nA];rfl
     have a1:w2.cell? ⟨H,1,none⟩=some (.int .i64 X):=by rw[zc nA];rfl
     have a2:w2.cell? ⟨H,2,none⟩=some (.float .f64 fa):=by rw[zc nA];rfl
     have a3:w2.cell? ⟨H,3,none⟩=some (.string S):=by rw[zc nA];rfl
     have a4:w2.cell? ⟨H,4,none⟩=some (.slice pp M pc):=by rw[zc nA];rfl
     have a5:w2.cell? ⟨H,5,none⟩=some (.slice p N cap):=by rw[zc nA];rfl
     clear nA;go_wp2_with fail
     go_ret;exact⟨ret_val (by rw[HR.out];rfl),by rw[HH.out];exact hB.trans ((below_tr' hbx hb2).mono (by have:=hB.size;rw[HH.out]at this;exact this))⟩
  have HR:=zh (HRX.out k1 k2 k3 k4 k5 k6);have t1:(K==1)=false:=beq_eq_false_iff_ne.2 k1;have t2:(K==2)=false:=beq_eq_false_iff_ne.2 k2;have t3:(K==3)=false:=beq_eq_false_iff_ne.2 k3;have t4:(K==4)=false:=beq_eq_false_iff_ne.2 k4;have t5:(K==5)=false:=beq_eq_false_iff_ne.2 k5;have t6:(K==6)=false:=beq_eq_false_iff_ne.2 k6;clear k1 k2 k3 k4 k5 k6;go_wp2_with fail
  go_ret;exact⟨ret_val (by rw[HR.out];rfl),by rw[HH.out];exact hB.trans (hbx.mono (by have:=hB.size;rw[HH.out]at this;exact this))⟩
theorem rright_zero (d:Nat) (v:VT) (cs:Array Value) (w:World) (h:ValAt w (d+1) v cs):Calls Tryz.prog 110 #[.agg cs,.int .i64 ((0:Nat):Int)] w (Gives (.bool (rightV v 0)) w):=by
 obtain⟨pp,pc,p,cap,hca⟩:=h.sixS;have HR:=zh (right0 v);subst hca;clear h;have hB:Below w.heap.size w (w.alloc (.cells #[.int .i64 v.kind,.int .i64 v.num,.float .f64 v.flt,.string ⟨v.str.toArray⟩,.slice pp v.names.length pc,.slice p v.items.length cap] 26)):=(Below.refl _ _).alloc (Nat.le_refl _) _;have tf:decide (((0:Nat):Int)<1)=true:=rfl;generalize v.names.length=M at *;generalize v.items.length=N at *;by_cases hN:N=0
 ·have n0:((N:Int)==0)=true:=by rw[hN];rfl
  by_cases hM:M=0
  ·have m0:((M:Int)==0)=true:=by rw[hM];rfl
   clear hN hM;go_in;go_wp2_with fail
   go_ret;exact⟨ret_val (by rw[HR.out];rfl),hB⟩
  ·have m0:((M:Int)==0)=false:=beq_eq_false_iff_ne.2 (by omega);clear hN hM;go_in;go_wp2_with fail
   go_ret;exact⟨ret_val (by rw[HR.out];rfl),hB⟩
 ·have n0:((N:Int)==0)=false:=beq_eq_false_iff_ne.2 (by omega);clear hN;go_in;go_wp2_with fail
  go_ret;exact⟨ret_val (by rw[HR.out];rfl),hB⟩
theorem rright_any:∀ (d:Nat) (v:VT) (cs:Array Value) (far:Nat) (w:World),far≤1000→ValAt w d v cs→Calls Tryz.prog 110 #[.agg cs,.int .i64 (far:Int)] w (Gives (.bool (rightV v far)) w)
 | 0,_,_,_,_,_,h=>h.elim
 | d+1,v,cs,far+1,w,hf,h=>by
  have:=rright_step d v cs far w (by omega) (fun v cs far w hf=>rright_any d v cs far w hf) h;rw[show((far+1:Nat):Int)=(far:Int)+1 from by omega];exact this
 | d+1,v,cs,0,w,_,h=>rright_zero d v cs w h
end
section
open Go.RowKit
theorem rRight_any (d:Nat) (v:VT) (cs:Array Value) (w:World) (h:ValAt w d v cs):Calls Tryz.prog 80 #[.agg cs] w (Gives (.bool (rightB v)) w):=by
 obtain⟨pp,pc,p,cap,rfl⟩:=h.sixS;have hB:Below w.heap.size w (w.alloc (.cells #[.int .i64 v.kind,.int .i64 v.num,.float .f64 v.flt,.string ⟨v.str.toArray⟩,.slice pp v.names.length pc,.slice p v.items.length cap] 26)):=(Below.refl _ _).alloc (Nat.le_refl _) _;have hnA:(w.alloc (.cells #[.int .i64 v.kind,.int .i64 v.num,.float .f64 v.flt,.string ⟨v.str.toArray⟩,.slice pp v.names.length pc,.slice p v.items.length cap] 26)).heap[w.heap.size]?=some (.cells #[.int .i64 v.kind,.int .i64 v.num,.float .f64 v.flt,.string ⟨v.str.toArray⟩,.slice pp v.names.length pc,.slice p v.items.length cap] 26 (0,0)):=heap_alloc_new w _;have HP:=zh (rparts_any d v _ _ (h.kept hB));have HC:=zh (fun w' (hb':Below _ _ w')=>rright_any d v _ 12 w' (by omega) (h.kept (hB.trans (hb'.mono hB.size))));have HBl:=zh (fun x (h:Below _ _ x)=>(h.block _ (lt_of_block hnA)).trans hnA);have hR:=rightB.eq_def v;clear h;generalize (⟨v.str.toArray⟩:ByteArray)=S at *;generalize v.kind=K at *;generalize v.num=X at *;generalize v.flt=fa at *;generalize v.names.length=M at *;generalize v.items.length=N at *;generalize rightV v 12=rv at *;generalize rightB v=R at *;by_cases h2:countV v 0≤200
 ·have t1:decide (((countV v 0:Nat):Int)≤200)=true:=by simp;omega
  rw[decide_eq_true h2,Bool.true_and]at hR;have HR:=zh hR;clear hR;generalize countV v 0=m at *;go_in;go_wp2_with fail
  refine(HP.out).mono ?_;rintro e w2 ⟨rfl,hb2⟩;have nA:=HBl.out _ hb2;generalize hgh:w.heap.size=H at *;have HH:=zh hgh;clear hgh;have a0:w2.cell? ⟨H,0,none⟩=some (.int .i64 K):=by rw[zc nA];rfl
  have a1:w2.cell? ⟨H,1,none⟩=some (.int .i64 X):=by rw[zc nA];rfl
  have a2:w2.cell? ⟨H,2,none⟩=some (.float .f64 fa):=by rw[zc nA];rfl
  have a3:w2.cell? ⟨H,3,none⟩=some (.string S):=by rw[zc nA];rfl
  have a4:w2.cell? ⟨H,4,none⟩=some (.slice pp M pc):=by rw[zc nA];rfl
  have a5:w2.cell? ⟨H,5,none⟩=some (.slice p N cap):=by rw[zc nA];rfl
  clear nA;go_wp2_with fail
  refine(HC.out _ hb2).mono ?_;rintro e w3 ⟨rfl,hb3⟩;go_wp2_with fail
  go_ret;exact⟨ret_val (by rw[HR.out];rfl),by rw[HH.out];exact hB.trans ((below_tr' hb2 hb3).mono (by have:=hB.size;rw[HH.out]at this;exact this))⟩
 ·have t1:decide (((countV v 0:Nat):Int)≤200)=false:=by simp;omega
  rw[decide_eq_false h2,Bool.false_and]at hR;have HR:=zh hR;clear hR;generalize countV v 0=m at *;go_in;go_wp2_with fail
  refine(HP.out).mono ?_;rintro e w2 ⟨rfl,hb2⟩;go_wp2_with fail
  go_ret;exact⟨ret_val (by rw[HR.out];rfl),hB.trans (hb2.mono hB.size)⟩
end
section
open Go.RowKit
theorem rnone_any (d:Nat) (v:VT) (cs:Array Value) (hk:v.kind=0) (w:World) (h:ValAt w d v cs):Calls Tryz.prog 57 #[.agg cs] w (Gives (.bool (bareV v false false false false)) w):=by
 obtain⟨pn,p,cap,rfl⟩:=h.six;obtain⟨pp,pc,rfl⟩:∃ p c,pn=.slice p v.names.length c:=by
  cases d with
  | zero=>exact h.elim
  | succ d =>
   obtain⟨a,b,h1,_,_,_,_,h6,_⟩:=h;obtain⟨p,c,hp⟩:=h6.lenOf;simp only[Array.mk.injEq,List.cons.injEq]at h1;exact⟨p,c,h1.2.2.2.2.1.trans hp⟩
 have hB:Below w.heap.size w (w.alloc (.cells #[.int .i64 v.kind,.int .i64 v.num,.float .f64 v.flt,.string ⟨v.str.toArray⟩,.slice pp v.names.length pc,.slice p v.items.length cap] 26)):=(Below.refl _ _).alloc (Nat.le_refl _) _;have hs:=rsame_any v.flt 0;rw[show canon 0=0 from rfl]at hs;have hz:zeroB v.flt=decide (canon v.flt=0):=rfl;have HS:=zh hs;clear hs;have HB:=bareV.eq_def v false false false false;have hnm:v.names.isEmpty=decide (v.names.length=0):=by cases v.names<;>simp
 have hit:v.items.isEmpty=decide (v.items.length=0):=by cases v.items<;>simp
 have hst:v.str.isEmpty=(⟨v.str.toArray⟩:ByteArray).toList.isEmpty:=by rw[ByteArray.toList_eq]
 rw[hnm,hit,hst,hz]at HB;clear h hz;rw[hk]at hB ⊢
 clear hk;generalize v.names.length=N at *;generalize v.items.length=M at *;generalize (⟨v.str.toArray⟩:ByteArray)=S at *;generalize v.num=K at *;generalize decide (canon v.flt=0)=Z at *;clear hnm hit hst;by_cases c1:K=0
 ·have t1:(K==0)=true:=by rw[c1];rfl
  rw[show decide (K=0)=true from decide_eq_true c1]at HB;clear c1;cases Z
  ·have HB:=zh HB;go_in;go_wp2_with (go_at_call 81;refine(HS.out _).mono ?_;rintro e w' ⟨rfl,rfl⟩)
   go_ret;exact⟨ret_val (by rw[HB.out];rfl),hB⟩
  ·by_cases c3:S.toList=[]
   ·have t3:S.toList.isEmpty=true:=by rw[c3];rfl
    rw[t3]at HB;by_cases c4:N=0
    ·have t4:((N:Int)==0)=true:=by rw[c4];rfl
     rw[show decide (N=0)=true from decide_eq_true c4]at HB;by_cases c5:M=0
     ·have t5:((M:Int)==0)=true:=by rw[c5];rfl
      rw[show decide (M=0)=true from decide_eq_true c5]at HB;have HB:=zh HB;clear c4 c5;go_in;go_wp2_with (go_at_call 81;refine(HS.out _).mono ?_;rintro e w' ⟨rfl,rfl⟩)
      go_ret;exact⟨ret_val (by rw[HB.out];rfl),hB⟩
     ·have t5:((M:Int)==0)=false:=by rw[beq_eq_false_iff_ne];omega
      rw[show decide (M=0)=false from decide_eq_false c5]at HB;have HB:=zh HB;clear c4;go_in;go_wp2_with (go_at_call 81;refine(HS.out _).mono ?_;rintro e w' ⟨rfl,rfl⟩)
      go_ret;exact⟨ret_val (by rw[HB.out];rfl),hB⟩
    ·have t4:((N:Int)==0)=false:=by rw[beq_eq_false_iff_ne];omega
     rw[show decide (N=0)=false from decide_eq_false c4]at HB;have HB:=zh HB;go_in;go_wp2_with (go_at_call 81;refine(HS.out _).mono ?_;rintro e w' ⟨rfl,rfl⟩)
     go_ret;exact⟨ret_val (by rw[HB.out];rfl),hB⟩
   ·have t3:S.toList.isEmpty=false:=by cases hh:S.toList with|nil=>exact absurd hh c3|cons a b=>rfl
    rw[t3]at HB;have HB:=zh HB;go_in;go_wp2_with (go_at_call 81;refine(HS.out _).mono ?_;rintro e w' ⟨rfl,rfl⟩)
    go_ret;exact⟨ret_val (by rw[HB.out];rfl),hB⟩
 ·have t1:(K==0)=false:=beq_eq_false_iff_ne.2 c1;rw[show decide (K=0)=false from decide_eq_false c1]at HB;have HB:=zh HB;go_in;go_wp2_with (go_at_call 81;refine(HS.out _).mono ?_;rintro e w' ⟨rfl,rfl⟩)
  go_ret;exact⟨ret_val (by rw[HB.out];rfl),hB⟩
end
end Go.Proofs.YtaaaaggmhjhkkaaGreatDoor
