/-
  U3, U5, C2, C3 in one text.
-/
import Derived.Test.YtepaaochgljcdaaGreatDoorS02
import Derived.Test.YtepaaochgljcdaaGreatDoorCl
set_option maxRecDepth 100000
set_option maxHeartbeats 16000000
namespace Go.Proofs.YtepaaochgljcdaaGreatDoor
section
open Go.RowKit
def plB (v:VT):Bool:=decide (v.items.length=0∧v.names.length=0)
theorem plB_eq (k n:Int) (f:Nat) (s:List UInt8) (ns:List (List UInt8)) (its:List VT):plB (.mk k n f s ns its)=(its.isEmpty&&ns.isEmpty):=by
 show decide (its.length=0∧ns.length=0)=_;cases its<;>cases ns<;>simp
theorem rt1 {v:VT} {far:Nat} (h:v.kind=1):rightV v (far+1)=(plB v&&(zeroB v.flt&&(v.str.isEmpty&&decide (v.num=0∨v.num=1)))):=by
 obtain⟨k,n,f,s,ns,its⟩:=v;have h:k=1:=h;rw[plB_eq,rightV,if_neg (by omega),if_pos h];simp only[Bool.and_assoc];rfl
theorem rt2 {v:VT} {far:Nat} (h:v.kind=2):rightV v (far+1)=(plB v&&(zeroB v.flt&&v.str.isEmpty)):=by
 obtain⟨k,n,f,s,ns,its⟩:=v;have h:k=2:=h;rw[plB_eq,rightV,if_neg (by omega),if_neg (by omega),if_pos h];simp only[Bool.and_assoc];rfl
theorem rt3 {v:VT} {far:Nat} (h:v.kind=3):rightV v (far+1)=(plB v&&(decide (v.num=0)&&v.str.isEmpty)):=by
 obtain⟨k,n,f,s,ns,its⟩:=v;have h:k=3:=h;rw[plB_eq,rightV,if_neg (by omega),if_neg (by omega),if_neg (by omega),if_pos h];simp only[Bool.and_assoc];rfl
theorem rt4 {v:VT} {far:Nat} (h:v.kind=4):rightV v (far+1)=(plB v&&(zeroB v.flt&&(decide (v.num=0)&&decide (v.str.length≤200)))):=by
 obtain⟨k,n,f,s,ns,its⟩:=v;have h:k=4:=h;rw[plB_eq,rightV,if_neg (by omega),if_neg (by omega),if_neg (by omega),if_neg (by omega),if_pos h];simp only[Bool.and_assoc];rfl
theorem isE_lenU {α:Type} (l:List α):l.isEmpty=decide (l.length=0):=by cases l<;>simp
theorem rt5 {v:VT} {far:Nat} (h:v.kind=5):rightV v (far+1)=(zeroB v.flt&&(decide (v.num=0)&&(v.str.isEmpty&&(decide (v.names.length=0)&&rightL v.items far)))):=by
 obtain⟨k,n,f,s,ns,its⟩:=v;have h:k=5:=h;rw[rightV,if_neg (by omega),if_neg (by omega),if_neg (by omega),if_neg (by omega),if_neg (by omega),if_pos h,isE_lenU ns];simp only[Bool.and_assoc];rfl
theorem rt6 {v:VT} {far:Nat} (h:v.kind=6):rightV v (far+1)=(zeroB v.flt&&(decide (v.num=0)&&(v.str.isEmpty&&(namesB v.names (v.items.length:Int)&&rightL v.items far)))):=by
 obtain⟨k,n,f,s,ns,its⟩:=v;have h:k=6:=h;have e:namesB ns (its.length:Int)=(risesB ns&&decide (ns.length=its.length)):=by
  unfold namesB;congr 1;apply decide_eq_decide.2;omega
 show _=(zeroB f&&(decide (n=0)&&(s.isEmpty&&(namesB ns (its.length:Int)&&rightL its far))));rw[rightV,if_neg (by omega),if_neg (by omega),if_neg (by omega),if_neg (by omega),if_neg (by omega),if_neg (by omega),if_pos h,e];simp only[Bool.and_assoc];rfl
theorem below_tr' {u v w:World} (h1:Below u.heap.size u v) (h2:Below v.heap.size v w):Below u.heap.size u w:=h1.trans (h2.mono h1.size)
theorem drewN_below (w:World) (q:Nat):Below w.heap.size w (w.drewN q):=⟨rfl,rfl,rfl,Nat.le_refl _,fun _ _=>rfl⟩
theorem rright_step (d:Nat) (v:VT) (cs:Array Value) (far:Nat) (w:World) (hfar:far≤1000)
  (ih:∀ (v:VT) (cs:Array Value) (far:Nat) (w:World),far≤1000→ValAt w d v cs→Calls Tryz.prog 119 #[.agg cs,.int .i64 (far:Int)] w (Gives (.bool (rightV v far)) w))
  (h:ValAt w (d+1) v cs):Calls Tryz.prog 119 #[.agg cs,.int .i64 ((far:Int)+1)] w (Gives (.bool (rightV v (far+1))) w):=by
 obtain⟨pp,pc,p,cap,hca⟩:=h.sixS;have hia:=h.boxes hca;obtain⟨hsa,_,hNb⟩:=h.strs hca;have hzz:=fun(x:World) (hx:ValAt x (d+1) v cs)=>rzeroV_any (d+1) v cs x hx
 have hvk:=fun(x:World) (hx:Below w.heap.size w x)=>h.kept hx
 subst hca;have hr1:=fun h=>rt1 (v:=v) (far:=far) h
 have hr2:=fun h=>rt2 (v:=v) (far:=far) h
 have hr3:=fun h=>rt3 (v:=v) (far:=far) h
 have hr4:=fun h=>rt4 (v:=v) (far:=far) h
 have hr5:=fun h=>rt5 (v:=v) (far:=far) h
 have hr6:=fun h=>rt6 (v:=v) (far:=far) h
 have hrx:=fun h1 h2 h3 h4 h5 h6=>rightX (v:=v) (f:=far+1) h1 h2 h3 h4 h5 h6
 have hpl:plB v=true↔v.items.length=0∧v.names.length=0:=by unfold plB;rw[decide_eq_true_eq]
 have hse:(⟨v.str.toArray⟩:ByteArray).toList.isEmpty=v.str.isEmpty:=by rw[ByteArray.toList_eq]
 have hsl:(⟨v.str.toArray⟩:ByteArray).size=v.str.length:=by show v.str.toArray.size=_;simp
 have hstep:=fun i (hi:i<v.items.length) far=>rightL_drop (l:=v.items) (i:=i) (f:=far) hi
 have hend:=fun i (hi:v.items.length≤i) far=>rightL_end (l:=v.items) (i:=i) (f:=far) hi
 have hnm:=fun x (hx:Below w.heap.size w x)=>rnames_any v.names _ (v.items.length:Int) x (hsa.kept hx)
 generalize rightV v (far+1)=R at *;generalize zeroB v.flt=bz at *;generalize plB v=bp at *;generalize v.flt=fa at *;generalize v.kind=K at *;generalize v.num=X at *;generalize (⟨v.str.toArray⟩:ByteArray)=S at *;generalize v.str.isEmpty=se at *;generalize v.str.length=sl at *;generalize namesB v.names (v.items.length:Int)=bn at *;generalize v.names.length=M at *;generalize v.items=its at *;generalize its.length=N at *;have HSe:=zh hse;have HSl:=zh hsl;have HPl:=zh hpl;have HStep:=zh hstep;have HEnd:=zh hend;have hB:Below w.heap.size w (w.alloc (.cells #[.int .i64 K,.int .i64 X,.float .f64 fa,.string S,.slice pp M pc,.slice p N cap] 28)):=(Below.refl _ _).alloc (Nat.le_refl _) _;have hnA:(w.alloc (.cells #[.int .i64 K,.int .i64 X,.float .f64 fa,.string S,.slice pp M pc,.slice p N cap] 28)).heap[w.heap.size]?=some (.cells #[.int .i64 K,.int .i64 X,.float .f64 fa,.string S,.slice pp M pc,.slice p N cap] 28 (0,0)):=heap_alloc_new w _;have HBl:=zh (fun x (h:Below (w.alloc (.cells #[.int .i64 K,.int .i64 X,.float .f64 fa,.string S,.slice pp M pc,.slice p N cap] 28)).heap.size (w.alloc (.cells #[.int .i64 K,.int .i64 X,.float .f64 fa,.string S,.slice pp M pc,.slice p N cap] 28)) x)=>(show x.heap[w.heap.size]?=some (.cells #[.int .i64 K,.int .i64 X,.float .f64 fa,.string S,.slice pp M pc,.slice p N cap] 28 (0,0)) from(h.block _ (lt_of_block hnA)).trans hnA));have HIA:=zh (fun i (hi:i<N) x (h:Below (w.alloc (.cells #[.int .i64 K,.int .i64 X,.float .f64 fa,.string S,.slice pp M pc,.slice p N cap] 28)).heap.size (w.alloc (.cells #[.int .i64 K,.int .i64 X,.float .f64 fa,.string S,.slice pp M pc,.slice p N cap] 28)) x)=>(show ∃ g off,p=some ⟨g,off,none⟩∧∃ ds,ValAt x d (its.getD i noVT) ds∧x.cell? ⟨g,off+i*6+0,none⟩=ds[0]?∧x.cell? ⟨g,off+i*6+1,none⟩=ds[1]?∧x.cell? ⟨g,off+i*6+2,none⟩=ds[2]?∧x.cell? ⟨g,off+i*6+3,none⟩=ds[3]?∧x.cell? ⟨g,off+i*6+4,none⟩=ds[4]?∧x.cell? ⟨g,off+i*6+5,none⟩=ds[5]? from by
  obtain⟨g,off,h1,h2,ds,h3,h4⟩:=hia i hi;have hx:=hB.trans (h.mono hB.size);have hc:=fun j (hj:j<6)=>(hx.cell (p:=⟨g,off+i*6+j,none⟩) h2).trans (h4 j hj)
  exact⟨g,off,h1,ds,h3.kept hx,hc 0 (by omega),hc 1 (by omega),hc 2 (by omega),hc 3 (by omega),hc 4 (by omega),hc 5 (by omega)⟩))
 have HZ:=zh (fun x (h:Below (w.alloc (.cells #[.int .i64 K,.int .i64 X,.float .f64 fa,.string S,.slice pp M pc,.slice p N cap] 28)).heap.size (w.alloc (.cells #[.int .i64 K,.int .i64 X,.float .f64 fa,.string S,.slice pp M pc,.slice p N cap] 28)) x)=>hzz x (hvk x (hB.trans (h.mono hB.size))));have HNm:=zh (fun x (h:Below (w.alloc (.cells #[.int .i64 K,.int .i64 X,.float .f64 fa,.string S,.slice pp M pc,.slice p N cap] 28)).heap.size (w.alloc (.cells #[.int .i64 K,.int .i64 X,.float .f64 fa,.string S,.slice pp M pc,.slice p N cap] 28)) x)=>(show Calls Tryz.prog 158 #[.slice pp M pc,.int .i64 (N:Int)] x (Gives (.bool bn) x) from(hnm x (hB.trans (h.mono hB.size))).mono (fun e w' h=>by obtain⟨h1,q,rfl⟩:=h;exact⟨h1,drewN_below x q⟩)));have IH:=zh ih;have HR1:=zh hr1;have HR2:=zh hr2;have HR3:=zh hr3;have HR4:=zh hr4;have HR5:=zh hr5;have HR6:=zh hr6;have HRX:=zh hrx;have tf:decide ((far:Int)+1<1)=false:=by simp;omega
 have tf2:(0:Int)≤(far:Int):=by omega
 have tf3:(far:Int)≤1000:=by omega
 clear hnA hia hsa hzz hvk h ih hr1 hr2 hr3 hr4 hr5 hr6 hrx hpl hse hsl hstep hend hnm;generalize hgh:w.heap.size=H at *;have HH:=zh hgh;clear hgh;go_in;go_upto_region 1 with (fail)
 rw[HH.out];generalize w.alloc (.cells #[.int .i64 K,.int .i64 X,.float .f64 fa,.string S,.slice pp M pc,.slice p N cap] 28)=W1 at *;have nA:=(HBl.out _ (Below.refl _ _));obtain⟨a0,a1,a2,a3,a4,a5⟩:=cells6 nA;clear nA;go_cut [5] (fun v wx=>v=.bool bp∧Below W1.heap.size W1 wx)
 case first =>
  by_cases hN:N=0
  ·have n0:((N:Int)==0)=true:=by rw[hN];rfl
   by_cases hM:M=0
   ·have m0:((M:Int)==0)=true:=by rw[hM];rfl
    have hb:=zh (HPl.out.2 ⟨hN,hM⟩);go_wp2_with fail
    go_meet;exact⟨by rw[hb.out],Below.refl _ _⟩
   ·have m0:((M:Int)==0)=false:=beq_eq_false_iff_ne.2 (by omega);have hb:=zh (show bp=false from by rw[←Bool.not_eq_true,HPl.out];exact fun h=>hM h.2);go_wp2_with fail
    go_meet;exact⟨by rw[hb.out],Below.refl _ _⟩
  ·have n0:((N:Int)==0)=false:=beq_eq_false_iff_ne.2 (by omega);have hb:=zh (show bp=false from by rw[←Bool.not_eq_true,HPl.out];exact fun h=>hN h.1);go_wp2_with fail
   go_meet;exact⟨by rw[hb.out],Below.refl _ _⟩
 case rest =>
  obtain⟨rfl,hbx⟩:=hcut;clear a0 a1 a2 a3 a4 a5;have nA:=(HBl.out _ hbx);obtain⟨a0,a1,a2,a3,a4,a5⟩:=cells6 nA;clear nA;clear HPl;by_cases k1:K=1
  ·have hr:=HR1.out k1;subst k1;cases bp
   ·have HR:=zh hr;clear hr;go_wp2_with fail
    go_ret;exact⟨ret_val (by rw[HR.out];rfl),by rw[HH.out];exact hB.trans (hbx.mono (by have:=hB.size;rw[HH.out]at this;exact this))⟩
   ·cases bz
    ·have HR:=zh hr;clear hr;go_wp2_with fail
     refine(HZ.out _ hbx).mono ?_;rintro e w2 ⟨rfl,hb2⟩;have nA:=(HBl.out _ (below_tr' hbx hb2));have a0:w2.cell? ⟨H,0,none⟩=some (.int .i64 1):=by rw[zc nA];rfl
     have a1:w2.cell? ⟨H,1,none⟩=some (.int .i64 X):=by rw[zc nA];rfl
     have a2:w2.cell? ⟨H,2,none⟩=some (.float .f64 fa):=by rw[zc nA];rfl
     have a3:w2.cell? ⟨H,3,none⟩=some (.string S):=by rw[zc nA];rfl
     have a4:w2.cell? ⟨H,4,none⟩=some (.slice pp M pc):=by rw[zc nA];rfl
     have a5:w2.cell? ⟨H,5,none⟩=some (.slice p N cap):=by rw[zc nA];rfl
     clear nA;go_wp2_with fail
     go_ret;exact⟨ret_val (by rw[HR.out];rfl),by rw[HH.out];exact hB.trans ((below_tr' hbx hb2).mono (by have:=hB.size;rw[HH.out]at this;exact this))⟩
    ·by_cases hs:S.toList=[]
     ·have s1:S.toList.isEmpty=true:=by rw[hs];rfl
      rw[←HSe.out,s1]at hr;by_cases hx:X=0
      ·have n0:(X==0)=true:=by rw[hx];rfl
       rw[decide_eq_true (.inl hx)]at hr;clear hx;have HR:=zh hr;clear hr;go_wp2_with fail
       refine(HZ.out _ hbx).mono ?_;rintro e w2 ⟨rfl,hb2⟩;have nA:=(HBl.out _ (below_tr' hbx hb2));have a0:w2.cell? ⟨H,0,none⟩=some (.int .i64 1):=by rw[zc nA];rfl
       have a1:w2.cell? ⟨H,1,none⟩=some (.int .i64 X):=by rw[zc nA];rfl
       have a2:w2.cell? ⟨H,2,none⟩=some (.float .f64 fa):=by rw[zc nA];rfl
       have a3:w2.cell? ⟨H,3,none⟩=some (.string S):=by rw[zc nA];rfl
       have a4:w2.cell? ⟨H,4,none⟩=some (.slice pp M pc):=by rw[zc nA];rfl
       have a5:w2.cell? ⟨H,5,none⟩=some (.slice p N cap):=by rw[zc nA];rfl
       clear nA;go_wp2_with fail
       go_ret;exact⟨ret_val (by rw[HR.out];rfl),by rw[HH.out];exact hB.trans ((below_tr' hbx hb2).mono (by have:=hB.size;rw[HH.out]at this;exact this))⟩
      ·have n0:(X==0)=false:=beq_eq_false_iff_ne.2 hx;by_cases hy:X=1
       ·have n1:(X==1)=true:=by rw[hy];rfl
        rw[decide_eq_true (.inr hy)]at hr;clear hx hy;have HR:=zh hr;clear hr;go_wp2_with fail
        refine(HZ.out _ hbx).mono ?_;rintro e w2 ⟨rfl,hb2⟩;have nA:=(HBl.out _ (below_tr' hbx hb2));have a0:w2.cell? ⟨H,0,none⟩=some (.int .i64 1):=by rw[zc nA];rfl
        have a1:w2.cell? ⟨H,1,none⟩=some (.int .i64 X):=by rw[zc nA];rfl
        have a2:w2.cell? ⟨H,2,none⟩=some (.float .f64 fa):=by rw[zc nA];rfl
        have a3:w2.cell? ⟨H,3,none⟩=some (.string S):=by rw[zc nA];rfl
        have a4:w2.cell? ⟨H,4,none⟩=some (.slice pp M pc):=by rw[zc nA];rfl
        have a5:w2.cell? ⟨H,5,none⟩=some (.slice p N cap):=by rw[zc nA];rfl
        clear nA;go_wp2_with fail
        go_ret;exact⟨ret_val (by rw[HR.out];rfl),by rw[HH.out];exact hB.trans ((below_tr' hbx hb2).mono (by have:=hB.size;rw[HH.out]at this;exact this))⟩
       ·have n1:(X==1)=false:=beq_eq_false_iff_ne.2 hy;rw[decide_eq_false (fun h=>h.elim hx hy)]at hr;clear hx hy;have HR:=zh hr;clear hr;go_wp2_with fail
        refine(HZ.out _ hbx).mono ?_;rintro e w2 ⟨rfl,hb2⟩;have nA:=(HBl.out _ (below_tr' hbx hb2));have a0:w2.cell? ⟨H,0,none⟩=some (.int .i64 1):=by rw[zc nA];rfl
        have a1:w2.cell? ⟨H,1,none⟩=some (.int .i64 X):=by rw[zc nA];rfl
        have a2:w2.cell? ⟨H,2,none⟩=some (.float .f64 fa):=by rw[zc nA];rfl
        have a3:w2.cell? ⟨H,3,none⟩=some (.string S):=by rw[zc nA];rfl
        have a4:w2.cell? ⟨H,4,none⟩=some (.slice pp M pc):=by rw[zc nA];rfl
        have a5:w2.cell? ⟨H,5,none⟩=some (.slice p N cap):=by rw[zc nA];rfl
        clear nA;go_wp2_with fail
        go_ret;exact⟨ret_val (by rw[HR.out];rfl),by rw[HH.out];exact hB.trans ((below_tr' hbx hb2).mono (by have:=hB.size;rw[HH.out]at this;exact this))⟩
     ·have s1:S.toList.isEmpty=false:=by cases h:S.toList with|nil=>exact absurd h hs|cons _ _=>rfl
      rw[←HSe.out,s1]at hr;have HR:=zh hr;clear hr;go_wp2_with fail
      refine(HZ.out _ hbx).mono ?_;rintro e w2 ⟨rfl,hb2⟩;have nA:=(HBl.out _ (below_tr' hbx hb2));have a0:w2.cell? ⟨H,0,none⟩=some (.int .i64 1):=by rw[zc nA];rfl
      have a1:w2.cell? ⟨H,1,none⟩=some (.int .i64 X):=by rw[zc nA];rfl
      have a2:w2.cell? ⟨H,2,none⟩=some (.float .f64 fa):=by rw[zc nA];rfl
      have a3:w2.cell? ⟨H,3,none⟩=some (.string S):=by rw[zc nA];rfl
      have a4:w2.cell? ⟨H,4,none⟩=some (.slice pp M pc):=by rw[zc nA];rfl
      have a5:w2.cell? ⟨H,5,none⟩=some (.slice p N cap):=by rw[zc nA];rfl
      clear nA;go_wp2_with fail
      go_ret;exact⟨ret_val (by rw[HR.out];rfl),by rw[HH.out];exact hB.trans ((below_tr' hbx hb2).mono (by have:=hB.size;rw[HH.out]at this;exact this))⟩
  by_cases k2:K=2
  ·have hr:=HR2.out k2;clear k1;subst k2;cases bp
   ·have HR:=zh hr;clear hr;go_wp2_with fail
    go_ret;exact⟨ret_val (by rw[HR.out];rfl),by rw[HH.out];exact hB.trans (hbx.mono (by have:=hB.size;rw[HH.out]at this;exact this))⟩
   ·cases bz
    ·have HR:=zh hr;clear hr;go_wp2_with fail
     refine(HZ.out _ hbx).mono ?_;rintro e w2 ⟨rfl,hb2⟩;have nA:=(HBl.out _ (below_tr' hbx hb2));have a0:w2.cell? ⟨H,0,none⟩=some (.int .i64 2):=by rw[zc nA];rfl
     have a1:w2.cell? ⟨H,1,none⟩=some (.int .i64 X):=by rw[zc nA];rfl
     have a2:w2.cell? ⟨H,2,none⟩=some (.float .f64 fa):=by rw[zc nA];rfl
     have a3:w2.cell? ⟨H,3,none⟩=some (.string S):=by rw[zc nA];rfl
     have a4:w2.cell? ⟨H,4,none⟩=some (.slice pp M pc):=by rw[zc nA];rfl
     have a5:w2.cell? ⟨H,5,none⟩=some (.slice p N cap):=by rw[zc nA];rfl
     clear nA;go_wp2_with fail
     go_ret;exact⟨ret_val (by rw[HR.out];rfl),by rw[HH.out];exact hB.trans ((below_tr' hbx hb2).mono (by have:=hB.size;rw[HH.out]at this;exact this))⟩
    ·by_cases hs:S.toList=[]
     ·have s1:S.toList.isEmpty=true:=by rw[hs];rfl
      rw[←HSe.out,s1]at hr;have HR:=zh hr;clear hr;go_wp2_with fail
      refine(HZ.out _ hbx).mono ?_;rintro e w2 ⟨rfl,hb2⟩;have nA:=(HBl.out _ (below_tr' hbx hb2));have a0:w2.cell? ⟨H,0,none⟩=some (.int .i64 2):=by rw[zc nA];rfl
      have a1:w2.cell? ⟨H,1,none⟩=some (.int .i64 X):=by rw[zc nA];rfl
      have a2:w2.cell? ⟨H,2,none⟩=some (.float .f64 fa):=by rw[zc nA];rfl
      have a3:w2.cell? ⟨H,3,none⟩=some (.string S):=by rw[zc nA];rfl
      have a4:w2.cell? ⟨H,4,none⟩=some (.slice pp M pc):=by rw[zc nA];rfl
      have a5:w2.cell? ⟨H,5,none⟩=some (.slice p N cap):=by rw[zc nA];rfl
      clear nA;go_wp2_with fail
      go_ret;exact⟨ret_val (by rw[HR.out];rfl),by rw[HH.out];exact hB.trans ((below_tr' hbx hb2).mono (by have:=hB.size;rw[HH.out]at this;exact this))⟩
     ·have s1:S.toList.isEmpty=false:=by cases h:S.toList with|nil=>exact absurd h hs|cons _ _=>rfl
      rw[←HSe.out,s1]at hr;have HR:=zh hr;clear hr;go_wp2_with fail
      refine(HZ.out _ hbx).mono ?_;rintro e w2 ⟨rfl,hb2⟩;have nA:=(HBl.out _ (below_tr' hbx hb2));have a0:w2.cell? ⟨H,0,none⟩=some (.int .i64 2):=by rw[zc nA];rfl
      have a1:w2.cell? ⟨H,1,none⟩=some (.int .i64 X):=by rw[zc nA];rfl
      have a2:w2.cell? ⟨H,2,none⟩=some (.float .f64 fa):=by rw[zc nA];rfl
      have a3:w2.cell? ⟨H,3,none⟩=some (.string S):=by rw[zc nA];rfl
      have a4:w2.cell? ⟨H,4,none⟩=some (.slice pp M pc):=by rw[zc nA];rfl
      have a5:w2.cell? ⟨H,5,none⟩=some (.slice p N cap):=by rw[zc nA];rfl
      clear nA;go_wp2_with fail
      go_ret;exact⟨ret_val (by rw[HR.out];rfl),by rw[HH.out];exact hB.trans ((below_tr' hbx hb2).mono (by have:=hB.size;rw[HH.out]at this;exact this))⟩
  by_cases k3:K=3
  ·have hr:=HR3.out k3;clear k1 k2;subst k3;cases bp
   ·have HR:=zh hr;clear hr;go_wp2_with fail
    go_ret;exact⟨ret_val (by rw[HR.out];rfl),by rw[HH.out];exact hB.trans (hbx.mono (by have:=hB.size;rw[HH.out]at this;exact this))⟩
   ·by_cases hx:X=0
    ·have n0:(X==0)=true:=by rw[hx];rfl
     rw[decide_eq_true hx]at hr;clear hx;by_cases hs:S.toList=[]
     ·have s1:S.toList.isEmpty=true:=by rw[hs];rfl
      rw[←HSe.out,s1]at hr;have HR:=zh hr;clear hr;go_wp2_with fail
      go_ret;exact⟨ret_val (by rw[HR.out];rfl),by rw[HH.out];exact hB.trans (hbx.mono (by have:=hB.size;rw[HH.out]at this;exact this))⟩
     ·have s1:S.toList.isEmpty=false:=by cases h:S.toList with|nil=>exact absurd h hs|cons _ _=>rfl
      rw[←HSe.out,s1]at hr;have HR:=zh hr;clear hr;go_wp2_with fail
      go_ret;exact⟨ret_val (by rw[HR.out];rfl),by rw[HH.out];exact hB.trans (hbx.mono (by have:=hB.size;rw[HH.out]at this;exact this))⟩
    ·have n0:(X==0)=false:=beq_eq_false_iff_ne.2 hx;rw[decide_eq_false hx]at hr;clear hx;have HR:=zh hr;clear hr;go_wp2_with fail
     go_ret;exact⟨ret_val (by rw[HR.out];rfl),by rw[HH.out];exact hB.trans (hbx.mono (by have:=hB.size;rw[HH.out]at this;exact this))⟩
  by_cases k4:K=4
  ·have hr:=HR4.out k4;clear k1 k2 k3;subst k4;cases bp
   ·have HR:=zh hr;clear hr;go_wp2_with fail
    go_ret;exact⟨ret_val (by rw[HR.out];rfl),by rw[HH.out];exact hB.trans (hbx.mono (by have:=hB.size;rw[HH.out]at this;exact this))⟩
   ·cases bz
    ·have HR:=zh hr;clear hr;go_wp2_with fail
     refine(HZ.out _ hbx).mono ?_;rintro e w2 ⟨rfl,hb2⟩;have nA:=(HBl.out _ (below_tr' hbx hb2));have a0:w2.cell? ⟨H,0,none⟩=some (.int .i64 4):=by rw[zc nA];rfl
     have a1:w2.cell? ⟨H,1,none⟩=some (.int .i64 X):=by rw[zc nA];rfl
     have a2:w2.cell? ⟨H,2,none⟩=some (.float .f64 fa):=by rw[zc nA];rfl
     have a3:w2.cell? ⟨H,3,none⟩=some (.string S):=by rw[zc nA];rfl
     have a4:w2.cell? ⟨H,4,none⟩=some (.slice pp M pc):=by rw[zc nA];rfl
     have a5:w2.cell? ⟨H,5,none⟩=some (.slice p N cap):=by rw[zc nA];rfl
     clear nA;go_wp2_with fail
     go_ret;exact⟨ret_val (by rw[HR.out];rfl),by rw[HH.out];exact hB.trans ((below_tr' hbx hb2).mono (by have:=hB.size;rw[HH.out]at this;exact this))⟩
    ·by_cases hx:X=0
     ·have n0:(X==0)=true:=by rw[hx];rfl
      rw[decide_eq_true hx]at hr;clear hx;by_cases hl:S.size≤200
      ·have l0:decide ((S.size:Int)≤200)=true:=by simp;omega
       rw[←HSl.out,decide_eq_true hl]at hr;have HR:=zh hr;clear hr;go_wp2_with fail
       refine(HZ.out _ hbx).mono ?_;rintro e w2 ⟨rfl,hb2⟩;have nA:=(HBl.out _ (below_tr' hbx hb2));have a0:w2.cell? ⟨H,0,none⟩=some (.int .i64 4):=by rw[zc nA];rfl
       have a1:w2.cell? ⟨H,1,none⟩=some (.int .i64 X):=by rw[zc nA];rfl
       have a2:w2.cell? ⟨H,2,none⟩=some (.float .f64 fa):=by rw[zc nA];rfl
       have a3:w2.cell? ⟨H,3,none⟩=some (.string S):=by rw[zc nA];rfl
       have a4:w2.cell? ⟨H,4,none⟩=some (.slice pp M pc):=by rw[zc nA];rfl
       have a5:w2.cell? ⟨H,5,none⟩=some (.slice p N cap):=by rw[zc nA];rfl
       clear nA;go_wp2_with fail
       go_ret;exact⟨ret_val (by rw[HR.out];rfl),by rw[HH.out];exact hB.trans ((below_tr' hbx hb2).mono (by have:=hB.size;rw[HH.out]at this;exact this))⟩
      ·have l0:decide ((S.size:Int)≤200)=false:=by simp;omega
       rw[←HSl.out,decide_eq_false hl]at hr;have HR:=zh hr;clear hr;go_wp2_with fail
       refine(HZ.out _ hbx).mono ?_;rintro e w2 ⟨rfl,hb2⟩;have nA:=(HBl.out _ (below_tr' hbx hb2));have a0:w2.cell? ⟨H,0,none⟩=some (.int .i64 4):=by rw[zc nA];rfl
       have a1:w2.cell? ⟨H,1,none⟩=some (.int .i64 X):=by rw[zc nA];rfl
       have a2:w2.cell? ⟨H,2,none⟩=some (.float .f64 fa):=by rw[zc nA];rfl
       have a3:w2.cell? ⟨H,3,none⟩=some (.string S):=by rw[zc nA];rfl
       have a4:w2.cell? ⟨H,4,none⟩=some (.slice pp M pc):=by rw[zc nA];rfl
       have a5:w2.cell? ⟨H,5,none⟩=some (.slice p N cap):=by rw[zc nA];rfl
       clear nA;go_wp2_with fail
       go_ret;exact⟨ret_val (by rw[HR.out];rfl),by rw[HH.out];exact hB.trans ((below_tr' hbx hb2).mono (by have:=hB.size;rw[HH.out]at this;exact this))⟩
     ·have n0:(X==0)=false:=beq_eq_false_iff_ne.2 hx;rw[decide_eq_false hx]at hr;clear hx;have HR:=zh hr;clear hr;go_wp2_with fail
      refine(HZ.out _ hbx).mono ?_;rintro e w2 ⟨rfl,hb2⟩;have nA:=(HBl.out _ (below_tr' hbx hb2));have a0:w2.cell? ⟨H,0,none⟩=some (.int .i64 4):=by rw[zc nA];rfl
      have a1:w2.cell? ⟨H,1,none⟩=some (.int .i64 X):=by rw[zc nA];rfl
      have a2:w2.cell? ⟨H,2,none⟩=some (.float .f64 fa):=by rw[zc nA];rfl
      have a3:w2.cell? ⟨H,3,none⟩=some (.string S):=by rw[zc nA];rfl
      have a4:w2.cell? ⟨H,4,none⟩=some (.slice pp M pc):=by rw[zc nA];rfl
      have a5:w2.cell? ⟨H,5,none⟩=some (.slice p N cap):=by rw[zc nA];rfl
      clear nA;go_wp2_with fail
      go_ret;exact⟨ret_val (by rw[HR.out];rfl),by rw[HH.out];exact hB.trans ((below_tr' hbx hb2).mono (by have:=hB.size;rw[HH.out]at this;exact this))⟩
  by_cases k5:K=5
  ·have hr:=HR5.out k5;clear k1 k2 k3 k4;subst k5;cases bz
   ·have HR:=zh hr;clear hr;go_wp2_with fail
    refine(HZ.out _ hbx).mono ?_;rintro e w2 ⟨rfl,hb2⟩;have nA:=(HBl.out _ (below_tr' hbx hb2));have a0:w2.cell? ⟨H,0,none⟩=some (.int .i64 5):=by rw[zc nA];rfl
    have a1:w2.cell? ⟨H,1,none⟩=some (.int .i64 X):=by rw[zc nA];rfl
    have a2:w2.cell? ⟨H,2,none⟩=some (.float .f64 fa):=by rw[zc nA];rfl
    have a3:w2.cell? ⟨H,3,none⟩=some (.string S):=by rw[zc nA];rfl
    have a4:w2.cell? ⟨H,4,none⟩=some (.slice pp M pc):=by rw[zc nA];rfl
    have a5:w2.cell? ⟨H,5,none⟩=some (.slice p N cap):=by rw[zc nA];rfl
    clear nA;go_wp2_with fail
    go_ret;exact⟨ret_val (by rw[HR.out];rfl),by rw[HH.out];exact hB.trans ((below_tr' hbx hb2).mono (by have:=hB.size;rw[HH.out]at this;exact this))⟩
   ·by_cases hx:X=0
    ·have n0:(X != 0)=false:=by rw[hx];rfl
     rw[decide_eq_true hx]at hr;clear hx;by_cases hs:S.toList=[]
     ·have s1:S.toList.isEmpty=true:=by rw[hs];rfl
      rw[←HSe.out,s1]at hr;by_cases hm:M=0
      ·have m1:decide ((0:Int)<(M:Int))=false:=by simp;omega
       have m2:¬ 0<M:=by omega
       rw[decide_eq_true hm]at hr;clear hm;simp only[Bool.true_and]at hr;have HR:=zh hr;clear hr;go_wp2_with fail
       refine(HZ.out _ hbx).mono ?_;rintro e w2 ⟨rfl,hb2⟩;have nA:=(HBl.out _ (below_tr' hbx hb2));have a0:w2.cell? ⟨H,0,none⟩=some (.int .i64 5):=by rw[zc nA];rfl
       have a1:w2.cell? ⟨H,1,none⟩=some (.int .i64 X):=by rw[zc nA];rfl
       have a2:w2.cell? ⟨H,2,none⟩=some (.float .f64 fa):=by rw[zc nA];rfl
       have a3:w2.cell? ⟨H,3,none⟩=some (.string S):=by rw[zc nA];rfl
       have a4:w2.cell? ⟨H,4,none⟩=some (.slice pp M pc):=by rw[zc nA];rfl
       have a5:w2.cell? ⟨H,5,none⟩=some (.slice p N cap):=by rw[zc nA];rfl
       clear nA;go_wp2_with fail
       have hB2:=(below_tr' hbx hb2);clear a0 a1 a2 a3 a4 a5;clear hbx hb2;go_loopw [6] (fun iv wr=>∃ i:Nat,iv=.int .i64 (i:Int)∧i≤N∧Hid (R=rightL (its.drop i) far)∧Below W1.heap.size W1 wr) (fun iv _=>N - (intOf iv).toNat)
       case atStart=>exact⟨0,rfl,Nat.zero_le _,by show _=_;rw[List.drop_zero];exact HR.out,hB2⟩
       case round =>
        clear hB2 HR;obtain⟨i,rfl,hi,hR,hb⟩:=hrel;have nA:=(HBl.out _ hb);have a0:wr.cell? ⟨H,0,none⟩=some (.int .i64 5):=by rw[zc nA];rfl
        have a1:wr.cell? ⟨H,1,none⟩=some (.int .i64 X):=by rw[zc nA];rfl
        have a2:wr.cell? ⟨H,2,none⟩=some (.float .f64 fa):=by rw[zc nA];rfl
        have a3:wr.cell? ⟨H,3,none⟩=some (.string S):=by rw[zc nA];rfl
        have a4:wr.cell? ⟨H,4,none⟩=some (.slice pp M pc):=by rw[zc nA];rfl
        have a5:wr.cell? ⟨H,5,none⟩=some (.slice p N cap):=by rw[zc nA];rfl
        clear nA;by_cases hlt:i<N
        ·have t0:decide ((i:Int)<(N:Int))=true:=by simp;omega
         obtain⟨gA,offA,rfl,ds,hva,x0,x1,x2,x3,x4,x5⟩:=HIA.out i hlt _ hb;obtain⟨q1,r1,s1,v1,rfl⟩:=hva.sixS;simp at x0 x1 x2 x3 x4 x5;have i1:(0:Int)≤(i:Int):=by omega
         have i2:(i:Int)<(N:Int):=by omega
         have HQ:=IH.out _ _ far wr hfar hva;have HSt:=HStep.out i hlt far;clear hva;cases hrv:rightV (its.getD i noVT) far
         ·rw[hrv]at HQ HSt;have HQ':=zh HQ;have HSt':=zh HSt;clear HQ HSt hrv;go_wp2_with fail
          refine(HQ'.out).mono ?_;rintro e w3 ⟨rfl,hb3⟩;go_wp2_with fail
          go_ret;exact⟨ret_val (by rw[hR.out,HSt'.out];rfl),by rw[HH.out];exact hB.trans ((below_tr' hb hb3).mono (by have:=hB.size;rw[HH.out]at this;exact this))⟩
         ·rw[hrv]at HQ HSt;have HQ':=zh HQ;have HSt':=zh HSt;clear HQ HSt hrv;go_wp2_with fail
          refine(HQ'.out).mono ?_;rintro e w3 ⟨rfl,hb3⟩;go_wp2_with fail
          go_roundw
          case rel=>exact⟨i+1,by go_num,by omega,by show _=_;rw[hR.out,HSt'.out,Bool.true_and],below_tr' hb hb3⟩
          case measure=>simp[intOf];omega
        ·have t0:decide ((i:Int)<(N:Int))=false:=by simp;omega
         have HE:=zh (HEnd.out i (by omega) far);go_wp2_with fail
         go_ret;exact⟨ret_val (by rw[hR.out,HE.out];rfl),by rw[HH.out];exact hB.trans (hb.mono (by have:=hB.size;rw[HH.out]at this;exact this))⟩
      ·have m1:decide ((0:Int)<(M:Int))=true:=by simp;omega
       have m2:0<M:=by omega
       rw[decide_eq_false hm]at hr;clear hm;have HR:=zh hr;clear hr;go_wp2_with fail
       refine(HZ.out _ hbx).mono ?_;rintro e w2 ⟨rfl,hb2⟩;have nA:=(HBl.out _ (below_tr' hbx hb2));have a0:w2.cell? ⟨H,0,none⟩=some (.int .i64 5):=by rw[zc nA];rfl
       have a1:w2.cell? ⟨H,1,none⟩=some (.int .i64 X):=by rw[zc nA];rfl
       have a2:w2.cell? ⟨H,2,none⟩=some (.float .f64 fa):=by rw[zc nA];rfl
       have a3:w2.cell? ⟨H,3,none⟩=some (.string S):=by rw[zc nA];rfl
       have a4:w2.cell? ⟨H,4,none⟩=some (.slice pp M pc):=by rw[zc nA];rfl
       have a5:w2.cell? ⟨H,5,none⟩=some (.slice p N cap):=by rw[zc nA];rfl
       clear nA;go_wp2_with fail
       go_ret;exact⟨ret_val (by rw[HR.out];rfl),by rw[HH.out];exact hB.trans ((below_tr' hbx hb2).mono (by have:=hB.size;rw[HH.out]at this;exact this))⟩
     ·have s1:S.toList.isEmpty=false:=by cases h:S.toList with|nil=>exact absurd h hs|cons _ _=>rfl
      rw[←HSe.out,s1]at hr;have HR:=zh hr;clear hr;go_wp2_with fail
      refine(HZ.out _ hbx).mono ?_;rintro e w2 ⟨rfl,hb2⟩;have nA:=(HBl.out _ (below_tr' hbx hb2));have a0:w2.cell? ⟨H,0,none⟩=some (.int .i64 5):=by rw[zc nA];rfl
      have a1:w2.cell? ⟨H,1,none⟩=some (.int .i64 X):=by rw[zc nA];rfl
      have a2:w2.cell? ⟨H,2,none⟩=some (.float .f64 fa):=by rw[zc nA];rfl
      have a3:w2.cell? ⟨H,3,none⟩=some (.string S):=by rw[zc nA];rfl
      have a4:w2.cell? ⟨H,4,none⟩=some (.slice pp M pc):=by rw[zc nA];rfl
      have a5:w2.cell? ⟨H,5,none⟩=some (.slice p N cap):=by rw[zc nA];rfl
      clear nA;go_wp2_with fail
      go_ret;exact⟨ret_val (by rw[HR.out];rfl),by rw[HH.out];exact hB.trans ((below_tr' hbx hb2).mono (by have:=hB.size;rw[HH.out]at this;exact this))⟩
    ·have n0:(X != 0)=true:=by rw[bne_iff_ne];exact hx
     rw[decide_eq_false hx]at hr;clear hx;have HR:=zh hr;clear hr;go_wp2_with fail
     refine(HZ.out _ hbx).mono ?_;rintro e w2 ⟨rfl,hb2⟩;have nA:=(HBl.out _ (below_tr' hbx hb2));have a0:w2.cell? ⟨H,0,none⟩=some (.int .i64 5):=by rw[zc nA];rfl
     have a1:w2.cell? ⟨H,1,none⟩=some (.int .i64 X):=by rw[zc nA];rfl
     have a2:w2.cell? ⟨H,2,none⟩=some (.float .f64 fa):=by rw[zc nA];rfl
     have a3:w2.cell? ⟨H,3,none⟩=some (.string S):=by rw[zc nA];rfl
     have a4:w2.cell? ⟨H,4,none⟩=some (.slice pp M pc):=by rw[zc nA];rfl
     have a5:w2.cell? ⟨H,5,none⟩=some (.slice p N cap):=by rw[zc nA];rfl
     clear nA;go_wp2_with fail
     go_ret;exact⟨ret_val (by rw[HR.out];rfl),by rw[HH.out];exact hB.trans ((below_tr' hbx hb2).mono (by have:=hB.size;rw[HH.out]at this;exact this))⟩
  by_cases k6:K=6
  ·have hr:=HR6.out k6;clear k1 k2 k3 k4 k5;subst k6;cases bz
   ·have HR:=zh hr;clear hr;go_wp2_with fail
    refine(HZ.out _ hbx).mono ?_;rintro e w2 ⟨rfl,hb2⟩;have nA:=(HBl.out _ (below_tr' hbx hb2));have a0:w2.cell? ⟨H,0,none⟩=some (.int .i64 6):=by rw[zc nA];rfl
    have a1:w2.cell? ⟨H,1,none⟩=some (.int .i64 X):=by rw[zc nA];rfl
    have a2:w2.cell? ⟨H,2,none⟩=some (.float .f64 fa):=by rw[zc nA];rfl
    have a3:w2.cell? ⟨H,3,none⟩=some (.string S):=by rw[zc nA];rfl
    have a4:w2.cell? ⟨H,4,none⟩=some (.slice pp M pc):=by rw[zc nA];rfl
    have a5:w2.cell? ⟨H,5,none⟩=some (.slice p N cap):=by rw[zc nA];rfl
    clear nA;go_wp2_with fail
    go_ret;exact⟨ret_val (by rw[HR.out];rfl),by rw[HH.out];exact hB.trans ((below_tr' hbx hb2).mono (by have:=hB.size;rw[HH.out]at this;exact this))⟩
   ·by_cases hx:X=0
    ·have n0:(X != 0)=false:=by rw[hx];rfl
     rw[decide_eq_true hx]at hr;clear hx;by_cases hs:S.toList=[]
     ·have s1:S.toList.isEmpty=true:=by rw[hs];rfl
      rw[←HSe.out,s1]at hr;cases bn
      ·have HR:=zh hr;clear hr;go_wp2_with fail
       refine(HZ.out _ hbx).mono ?_;rintro e w2 ⟨rfl,hb2⟩;have nA:=(HBl.out _ (below_tr' hbx hb2));have a0:w2.cell? ⟨H,0,none⟩=some (.int .i64 6):=by rw[zc nA];rfl
       have a1:w2.cell? ⟨H,1,none⟩=some (.int .i64 X):=by rw[zc nA];rfl
       have a2:w2.cell? ⟨H,2,none⟩=some (.float .f64 fa):=by rw[zc nA];rfl
       have a3:w2.cell? ⟨H,3,none⟩=some (.string S):=by rw[zc nA];rfl
       have a4:w2.cell? ⟨H,4,none⟩=some (.slice pp M pc):=by rw[zc nA];rfl
       have a5:w2.cell? ⟨H,5,none⟩=some (.slice p N cap):=by rw[zc nA];rfl
       clear nA;go_wp2_with fail
       refine(HNm.out _ (below_tr' hbx hb2)).mono ?_;rintro e w3 ⟨rfl,hb3⟩;have nA:=(HBl.out _ (below_tr' (below_tr' hbx hb2) hb3));have a0:w3.cell? ⟨H,0,none⟩=some (.int .i64 6):=by rw[zc nA];rfl
       have a1:w3.cell? ⟨H,1,none⟩=some (.int .i64 X):=by rw[zc nA];rfl
       have a2:w3.cell? ⟨H,2,none⟩=some (.float .f64 fa):=by rw[zc nA];rfl
       have a3:w3.cell? ⟨H,3,none⟩=some (.string S):=by rw[zc nA];rfl
       have a4:w3.cell? ⟨H,4,none⟩=some (.slice pp M pc):=by rw[zc nA];rfl
       have a5:w3.cell? ⟨H,5,none⟩=some (.slice p N cap):=by rw[zc nA];rfl
       clear nA;go_wp2_with fail
       go_ret;exact⟨ret_val (by rw[HR.out];rfl),by rw[HH.out];exact hB.trans ((below_tr' (below_tr' hbx hb2) hb3).mono (by have:=hB.size;rw[HH.out]at this;exact this))⟩
      ·simp only[Bool.true_and]at hr;have HR:=zh hr;clear hr;go_wp2_with fail
       refine(HZ.out _ hbx).mono ?_;rintro e w2 ⟨rfl,hb2⟩;have nA:=(HBl.out _ (below_tr' hbx hb2));have a0:w2.cell? ⟨H,0,none⟩=some (.int .i64 6):=by rw[zc nA];rfl
       have a1:w2.cell? ⟨H,1,none⟩=some (.int .i64 X):=by rw[zc nA];rfl
       have a2:w2.cell? ⟨H,2,none⟩=some (.float .f64 fa):=by rw[zc nA];rfl
       have a3:w2.cell? ⟨H,3,none⟩=some (.string S):=by rw[zc nA];rfl
       have a4:w2.cell? ⟨H,4,none⟩=some (.slice pp M pc):=by rw[zc nA];rfl
       have a5:w2.cell? ⟨H,5,none⟩=some (.slice p N cap):=by rw[zc nA];rfl
       clear nA;go_wp2_with fail
       refine(HNm.out _ (below_tr' hbx hb2)).mono ?_;rintro e w3 ⟨rfl,hb3⟩;have nA:=(HBl.out _ (below_tr' (below_tr' hbx hb2) hb3));have a0:w3.cell? ⟨H,0,none⟩=some (.int .i64 6):=by rw[zc nA];rfl
       have a1:w3.cell? ⟨H,1,none⟩=some (.int .i64 X):=by rw[zc nA];rfl
       have a2:w3.cell? ⟨H,2,none⟩=some (.float .f64 fa):=by rw[zc nA];rfl
       have a3:w3.cell? ⟨H,3,none⟩=some (.string S):=by rw[zc nA];rfl
       have a4:w3.cell? ⟨H,4,none⟩=some (.slice pp M pc):=by rw[zc nA];rfl
       have a5:w3.cell? ⟨H,5,none⟩=some (.slice p N cap):=by rw[zc nA];rfl
       clear nA;go_wp2_with fail
       have hB2:=(below_tr' (below_tr' hbx hb2) hb3);clear a0 a1 a2 a3 a4 a5;clear hbx hb2 hb3;go_loopw [6] (fun iv wr=>∃ i:Nat,iv=.int .i64 (i:Int)∧i≤N∧Hid (R=rightL (its.drop i) far)∧Below W1.heap.size W1 wr) (fun iv _=>N - (intOf iv).toNat)
       case atStart=>exact⟨0,rfl,Nat.zero_le _,by show _=_;rw[List.drop_zero];exact HR.out,hB2⟩
       case round =>
        clear hB2 HR;obtain⟨i,rfl,hi,hR,hb⟩:=hrel;have nA:=(HBl.out _ hb);have a0:wr.cell? ⟨H,0,none⟩=some (.int .i64 6):=by rw[zc nA];rfl
        have a1:wr.cell? ⟨H,1,none⟩=some (.int .i64 X):=by rw[zc nA];rfl
        have a2:wr.cell? ⟨H,2,none⟩=some (.float .f64 fa):=by rw[zc nA];rfl
        have a3:wr.cell? ⟨H,3,none⟩=some (.string S):=by rw[zc nA];rfl
        have a4:wr.cell? ⟨H,4,none⟩=some (.slice pp M pc):=by rw[zc nA];rfl
        have a5:wr.cell? ⟨H,5,none⟩=some (.slice p N cap):=by rw[zc nA];rfl
        clear nA;by_cases hlt:i<N
        ·have t0:decide ((i:Int)<(N:Int))=true:=by simp;omega
         obtain⟨gA,offA,rfl,ds,hva,x0,x1,x2,x3,x4,x5⟩:=HIA.out i hlt _ hb;obtain⟨q1,r1,s1,v1,rfl⟩:=hva.sixS;simp at x0 x1 x2 x3 x4 x5;have i1:(0:Int)≤(i:Int):=by omega
         have i2:(i:Int)<(N:Int):=by omega
         have HQ:=IH.out _ _ far wr hfar hva;have HSt:=HStep.out i hlt far;clear hva;cases hrv:rightV (its.getD i noVT) far
         ·rw[hrv]at HQ HSt;have HQ':=zh HQ;have HSt':=zh HSt;clear HQ HSt hrv;go_wp2_with fail
          refine(HQ'.out).mono ?_;rintro e w3 ⟨rfl,hb3⟩;go_wp2_with fail
          go_ret;exact⟨ret_val (by rw[hR.out,HSt'.out];rfl),by rw[HH.out];exact hB.trans ((below_tr' hb hb3).mono (by have:=hB.size;rw[HH.out]at this;exact this))⟩
         ·rw[hrv]at HQ HSt;have HQ':=zh HQ;have HSt':=zh HSt;clear HQ HSt hrv;go_wp2_with fail
          refine(HQ'.out).mono ?_;rintro e w3 ⟨rfl,hb3⟩;go_wp2_with fail
          go_roundw
          case rel=>exact⟨i+1,by go_num,by omega,by show _=_;rw[hR.out,HSt'.out,Bool.true_and],below_tr' hb hb3⟩
          case measure=>simp[intOf];omega
        ·have t0:decide ((i:Int)<(N:Int))=false:=by simp;omega
         have HE:=zh (HEnd.out i (by omega) far);go_wp2_with fail
         go_ret;exact⟨ret_val (by rw[hR.out,HE.out];rfl),by rw[HH.out];exact hB.trans (hb.mono (by have:=hB.size;rw[HH.out]at this;exact this))⟩
     ·have s1:S.toList.isEmpty=false:=by cases h:S.toList with|nil=>exact absurd h hs|cons _ _=>rfl
      rw[←HSe.out,s1]at hr;have HR:=zh hr;clear hr;go_wp2_with fail
      refine(HZ.out _ hbx).mono ?_;rintro e w2 ⟨rfl,hb2⟩;have nA:=(HBl.out _ (below_tr' hbx hb2));have a0:w2.cell? ⟨H,0,none⟩=some (.int .i64 6):=by rw[zc nA];rfl
      have a1:w2.cell? ⟨H,1,none⟩=some (.int .i64 X):=by rw[zc nA];rfl
      have a2:w2.cell? ⟨H,2,none⟩=some (.float .f64 fa):=by rw[zc nA];rfl
      have a3:w2.cell? ⟨H,3,none⟩=some (.string S):=by rw[zc nA];rfl
      have a4:w2.cell? ⟨H,4,none⟩=some (.slice pp M pc):=by rw[zc nA];rfl
      have a5:w2.cell? ⟨H,5,none⟩=some (.slice p N cap):=by rw[zc nA];rfl
      clear nA;go_wp2_with fail
      go_ret;exact⟨ret_val (by rw[HR.out];rfl),by rw[HH.out];exact hB.trans ((below_tr' hbx hb2).mono (by have:=hB.size;rw[HH.out]at this;exact this))⟩
    ·have n0:(X != 0)=true:=by rw[bne_iff_ne];exact hx
     rw[decide_eq_false hx]at hr;clear hx;have HR:=zh hr;clear hr;go_wp2_with fail
     refine(HZ.out _ hbx).mono ?_;rintro e w2 ⟨rfl,hb2⟩;have nA:=(HBl.out _ (below_tr' hbx hb2));have a0:w2.cell? ⟨H,0,none⟩=some (.int .i64 6):=by rw[zc nA];rfl
     have a1:w2.cell? ⟨H,1,none⟩=some (.int .i64 X):=by rw[zc nA];rfl
     have a2:w2.cell? ⟨H,2,none⟩=some (.float .f64 fa):=by rw[zc nA];rfl
     have a3:w2.cell? ⟨H,3,none⟩=some (.string S):=by rw[zc nA];rfl
     have a4:w2.cell? ⟨H,4,none⟩=some (.slice pp M pc):=by rw[zc nA];rfl
     have a5:w2.cell? ⟨H,5,none⟩=some (.slice p N cap):=by rw[zc nA];rfl
     clear nA;go_wp2_with fail
     go_ret;exact⟨ret_val (by rw[HR.out];rfl),by rw[HH.out];exact hB.trans ((below_tr' hbx hb2).mono (by have:=hB.size;rw[HH.out]at this;exact this))⟩
  have HR:=zh (HRX.out k1 k2 k3 k4 k5 k6);have t1:(K==1)=false:=beq_eq_false_iff_ne.2 k1;have t2:(K==2)=false:=beq_eq_false_iff_ne.2 k2;have t3:(K==3)=false:=beq_eq_false_iff_ne.2 k3;have t4:(K==4)=false:=beq_eq_false_iff_ne.2 k4;have t5:(K==5)=false:=beq_eq_false_iff_ne.2 k5;have t6:(K==6)=false:=beq_eq_false_iff_ne.2 k6;clear k1 k2 k3 k4 k5 k6;go_wp2_with fail
  go_ret;exact⟨ret_val (by rw[HR.out];rfl),by rw[HH.out];exact hB.trans (hbx.mono (by have:=hB.size;rw[HH.out]at this;exact this))⟩
theorem rright_zero (d:Nat) (v:VT) (cs:Array Value) (w:World) (h:ValAt w (d+1) v cs):Calls Tryz.prog 119 #[.agg cs,.int .i64 ((0:Nat):Int)] w (Gives (.bool (rightV v 0)) w):=by
 obtain⟨pp,pc,p,cap,hca⟩:=h.sixS;have HR:=zh (right0 v);subst hca;clear h;have hB:Below w.heap.size w (w.alloc (.cells #[.int .i64 v.kind,.int .i64 v.num,.float .f64 v.flt,.string ⟨v.str.toArray⟩,.slice pp v.names.length pc,.slice p v.items.length cap] 28)):=(Below.refl _ _).alloc (Nat.le_refl _) _;have tf:decide (((0:Nat):Int)<1)=true:=rfl;generalize v.names.length=M at *;generalize v.items.length=N at *;by_cases hN:N=0
 ·have n0:((N:Int)==0)=true:=by rw[hN];rfl
  by_cases hM:M=0
  ·have m0:((M:Int)==0)=true:=by rw[hM];rfl
   clear hN hM;go_in;go_wp2_with fail
   go_ret;exact⟨ret_val (by rw[HR.out];rfl),hB⟩
  ·have m0:((M:Int)==0)=false:=beq_eq_false_iff_ne.2 (by omega);clear hN hM;go_in;go_wp2_with fail
   go_ret;exact⟨ret_val (by rw[HR.out];rfl),hB⟩
 ·have n0:((N:Int)==0)=false:=beq_eq_false_iff_ne.2 (by omega);clear hN;go_in;go_wp2_with fail
  go_ret;exact⟨ret_val (by rw[HR.out];rfl),hB⟩
theorem rright_any:∀ (d:Nat) (v:VT) (cs:Array Value) (far:Nat) (w:World),far≤1000→ValAt w d v cs→Calls Tryz.prog 119 #[.agg cs,.int .i64 (far:Int)] w (Gives (.bool (rightV v far)) w)
 | 0,_,_,_,_,_,h=>h.elim
 | d+1,v,cs,far+1,w,hf,h=>by
  have:=rright_step d v cs far w (by omega) (fun v cs far w hf=>rright_any d v cs far w hf) h;rw[show((far+1:Nat):Int)=(far:Int)+1 from by omega];exact this
 | d+1,v,cs,0,w,_,h=>rright_zero d v cs w h
end
section
open Go.RowKit
/-- are two values the same? -/
def sameV (a b:VT):Bool:=decide (ordV a b=0)
theorem rRight_any (d:Nat) (v:VT) (cs:Array Value) (w:World) (h:ValAt w d v cs):Calls Tryz.prog 81 #[.agg cs] w (Gives (.bool (rightB v)) w):=by
 obtain⟨pp,pc,p,cap,rfl⟩:=h.sixS;have hB:Below w.heap.size w (w.alloc (.cells #[.int .i64 v.kind,.int .i64 v.num,.float .f64 v.flt,.string ⟨v.str.toArray⟩,.slice pp v.names.length pc,.slice p v.items.length cap] 28)):=(Below.refl _ _).alloc (Nat.le_refl _) _;have hnA:(w.alloc (.cells #[.int .i64 v.kind,.int .i64 v.num,.float .f64 v.flt,.string ⟨v.str.toArray⟩,.slice pp v.names.length pc,.slice p v.items.length cap] 28)).heap[w.heap.size]?=some (.cells #[.int .i64 v.kind,.int .i64 v.num,.float .f64 v.flt,.string ⟨v.str.toArray⟩,.slice pp v.names.length pc,.slice p v.items.length cap] 28 (0,0)):=heap_alloc_new w _;have HP:=zh (rparts_any d v _ _ (h.kept hB));have HC:=zh (fun w' (hb':Below _ _ w')=>rright_any d v _ 12 w' (by omega) (h.kept (hB.trans (hb'.mono hB.size))));have HBl:=zh (fun x (h:Below _ _ x)=>(h.block _ (lt_of_block hnA)).trans hnA);have hR:=rightB.eq_def v;clear h;generalize (⟨v.str.toArray⟩:ByteArray)=S at *;generalize v.kind=K at *;generalize v.num=X at *;generalize v.flt=fa at *;generalize v.names.length=M at *;generalize v.items.length=N at *;generalize rightV v 12=rv at *;generalize rightB v=R at *;by_cases h2:countV v 0≤200
 ·have t1:decide (((countV v 0:Nat):Int)≤200)=true:=by simp;omega
  rw[decide_eq_true h2,Bool.true_and]at hR;have HR:=zh hR;clear hR;generalize countV v 0=m at *;go_in;go_wp2_with fail
  refine(HP.out).mono ?_;rintro e w2 ⟨rfl,hb2⟩;have nA:=HBl.out _ hb2;generalize hgh:w.heap.size=H at *;have HH:=zh hgh;clear hgh;have a0:w2.cell? ⟨H,0,none⟩=some (.int .i64 K):=by rw[zc nA];rfl
  have a1:w2.cell? ⟨H,1,none⟩=some (.int .i64 X):=by rw[zc nA];rfl
  have a2:w2.cell? ⟨H,2,none⟩=some (.float .f64 fa):=by rw[zc nA];rfl
  have a3:w2.cell? ⟨H,3,none⟩=some (.string S):=by rw[zc nA];rfl
  have a4:w2.cell? ⟨H,4,none⟩=some (.slice pp M pc):=by rw[zc nA];rfl
  have a5:w2.cell? ⟨H,5,none⟩=some (.slice p N cap):=by rw[zc nA];rfl
  clear nA;go_wp2_with fail
  refine(HC.out _ hb2).mono ?_;rintro e w3 ⟨rfl,hb3⟩;go_wp2_with fail
  go_ret;exact⟨ret_val (by rw[HR.out];rfl),by rw[HH.out];exact hB.trans ((below_tr' hb2 hb3).mono (by have:=hB.size;rw[HH.out]at this;exact this))⟩
 ·have t1:decide (((countV v 0:Nat):Int)≤200)=false:=by simp;omega
  rw[decide_eq_false h2,Bool.false_and]at hR;have HR:=zh hR;clear hR;generalize countV v 0=m at *;go_in;go_wp2_with fail
  refine(HP.out).mono ?_;rintro e w2 ⟨rfl,hb2⟩;go_wp2_with fail
  go_ret;exact⟨ret_val (by rw[HR.out];rfl),hB.trans (hb2.mono hB.size)⟩
theorem rSame_any (d d2:Nat) (a b:VT) (ca cb:Array Value) (w:World) (ha:ValAt w d a ca) (hb:ValAt w d2 b cb):Calls Tryz.prog 24 #[.agg ca,.agg cb] w (Gives (.bool (sameV a b)) w):=by
 obtain⟨pp,pc,p,cap,rfl⟩:=ha.sixS;obtain⟨pp',pc',p',cap',rfl⟩:=hb.sixS;have hB1:Below w.heap.size w (w.alloc (.cells #[.int .i64 a.kind,.int .i64 a.num,.float .f64 a.flt,.string ⟨a.str.toArray⟩,.slice pp a.names.length pc,.slice p a.items.length cap] 28)):=(Below.refl _ _).alloc (Nat.le_refl _) _;have hB:=hB1.alloc (o:=.cells #[.int .i64 b.kind,.int .i64 b.num,.float .f64 b.flt,.string ⟨b.str.toArray⟩,.slice pp' b.names.length pc',.slice p' b.items.length cap'] 28) hB1.size;have HC:=zh (rOrder_any d d2 a b _ _ _ (ha.kept hB) (hb.kept hB));have hS:=sameV.eq_def a b;clear ha hb hB1;generalize (⟨a.str.toArray⟩:ByteArray)=S at *;generalize (⟨b.str.toArray⟩:ByteArray)=S' at *;generalize ordV a b=c at *;generalize sameV a b=R at *;by_cases hc:c=0
 ·have t0:(c==0)=true:=by rw[hc];rfl
  rw[decide_eq_true hc]at hS;have HS:=zh hS;clear hc hS;go_in;go_wp2_with fail
  refine(HC.out).mono ?_;rintro e w2 ⟨rfl,hb2⟩;go_wp2_with fail
  go_ret;exact⟨ret_val (by rw[HS.out];rfl),hB.trans (hb2.mono hB.size)⟩
 ·have t0:(c==0)=false:=beq_eq_false_iff_ne.2 hc;rw[decide_eq_false hc]at hS;have HS:=zh hS;clear hc hS;go_in;go_wp2_with fail
  refine(HC.out).mono ?_;rintro e w2 ⟨rfl,hb2⟩;go_wp2_with fail
  go_ret;exact⟨ret_val (by rw[HS.out];rfl),hB.trans (hb2.mono hB.size)⟩
end
section
open Go.RowKit
theorem cmust_yes (x:Int) (w:World):Calls Tryz.prog 125 #[.bool true,.int .i64 x] w fun e w'=>e=.returned (.tuple #[])∧w=w':=by
 go_in;go_wp2_with fail
 go_end0;exact⟨rfl,rfl⟩
theorem cmust_no (x:Int) (w:World):Calls Tryz.prog 125 #[.bool false,.int .i64 x] w fun e w'=>e=gave x∧w=w':=by
 go_in;go_wp2_with fail
 exact⟨rfl,rfl,rfl⟩
/-- the codec's reader: its text, its place, how many parts were begun -/
def RdB (b:Nat) (s:ByteArray) (k q:Nat) (w:World):Prop:=w.heap[b]?=some (.cells #[.string s,.int .i64 k,.int .i64 q] 187 (0,0))
theorem RdB.c0 {b:Nat} {s:ByteArray} {k q:Nat} {w:World} (h:RdB b s k q w):w.cell? ⟨b,0,none⟩=some (.string s):=by rw[zc h];rfl
theorem RdB.c1 {b:Nat} {s:ByteArray} {k q:Nat} {w:World} (h:RdB b s k q w):w.cell? ⟨b,1,none⟩=some (.int .i64 k):=by rw[zc h];rfl
theorem RdB.c2 {b:Nat} {s:ByteArray} {k q:Nat} {w:World} (h:RdB b s k q w):w.cell? ⟨b,2,none⟩=some (.int .i64 q):=by rw[zc h];rfl
theorem RdB.fz {b:Nat} {s:ByteArray} {k q:Nat} {w:World} (h:RdB b s k q w) (i:Nat):w.frozen? ⟨b,i,none⟩=false:=Lib.frozen_of_heap h i
theorem RdB.put1 {b:Nat} {s:ByteArray} {k q:Nat} {w:World} (h:RdB b s k q w) (c:Nat):RdB b s c q (w.setCell ⟨b,1,none⟩ (.int .i64 c)):=heap_setN h 1 _
theorem RdB.put2 {b:Nat} {s:ByteArray} {k q:Nat} {w:World} (h:RdB b s k q w) (c:Nat):RdB b s k c (w.setCell ⟨b,2,none⟩ (.int .i64 c)):=heap_setN h 2 _
theorem RdB.drewN {b:Nat} {s:ByteArray} {k q:Nat} {w:World} (h:RdB b s k q w) (n:Nat):RdB b s k q (w.drewN n):=h
theorem RdB.drew {b:Nat} {s:ByteArray} {k q:Nat} {w:World} (h:RdB b s k q w):RdB b s k q w.drew:=h
theorem RdB.lt {b:Nat} {s:ByteArray} {k q:Nat} {w:World} (h:RdB b s k q w):b<w.heap.size:=lt_of_block h
theorem cbyte_no (s:ByteArray) (b k q:Nat) (hk:s.size≤k) (w:World) (hb:RdB b s k q w) :
  Calls Tryz.prog 124 #[.pointer (some ⟨b,0,none⟩)] w fun e w'=>e=gave 14∧Fr [b] w w':=by
 have c0:=hb.c0;have c1:=hb.c1;have t1:decide ((k:Int)<(s.size:Int))=false:=by simp;omega
 have t2:decide (k<s.size)=false:=by simp;omega
 have HM:=zh (cmust_no 14);clear hk;go_in;go_wp2_with fail
 go_region_with ((go_at_call 125;(with_reducible refine(HM.out _).mono ?_);rintro e w2 ⟨rfl,rfl⟩;refine shut_way (w:=w) ⟨rfl,rfl,(Fr.refl [b] w).drew⟩ ?_))
 all_goals trivial
theorem cbyte_yes (s:ByteArray) (hs:s.size≤100000000) (b k q:Nat) (hk:k<s.size) (w:World) (hb:RdB b s k q w) :
  Calls Tryz.prog 124 #[.pointer (some ⟨b,0,none⟩)] w fun e w'=>e=.returned (.int .u8 (s[k]'hk).toNat)∧RdB b s (k+1) q w'∧Fr [b] w w':=by
 have c0:=hb.c0;have c1:=hb.c1;have f1:=hb.fz 1;have t1:decide ((k:Int)<(s.size:Int))=true:=by simp;omega
 have HM:=zh (cmust_yes 14);go_in;go_wp2_with fail
 go_quiet (refine Calls.quiet_of_same ((HM.out _).mono fun _ _ h=>⟨h.1,h.2.symm⟩))
 go_wp2_with fail
 have A1:RdB b s (k+1) q ((w.drewN nq).setCell ⟨b,1,none⟩ (.int .i64 ((k:Int)+1))):=(hb.drewN nq).put1 (k+1);have A2:=((Fr.refl [b] w).drewN nq).setCell ⟨b,1,none⟩ (by simp) (.int .i64 ((k:Int)+1));have w1:IntKind.i64.wrap ((k:Int)+1 - 1)=(k:Int):=by rw[IntKind.wrap_i64];omega
 have w2:IntKind.i64.wrap (k:Int)=(k:Int):=by rw[IntKind.wrap_i64];omega
 have b1:(0:Int)≤(k:Int):=by omega
 have b2:(k:Int)<(s.size:Int):=by omega
 clear c0 c1 f1 t1;generalize (w.drewN nq).setCell ⟨b,1,none⟩ (.int .i64 ((k:Int)+1))=W2 at *;have c0:=A1.c0;have c1:=A1.c1;generalize hk1:k+1=k1 at A1 c1;have e1:(k1:Int)=(k:Int)+1:=by omega
 rw[e1]at c1;subst hk1;clear e1;go_quiet (fail)
 go_wp2_with fail
 go_ret;exact⟨rfl,A1.drewN _,A2.drewN _⟩
end
section
open Go.RowKit
/-- what a reader's call leaves: a value and its place, or it gave up -/
def RdPost (b:Nat) (s:ByteArray) (q:Nat) (w:World) (r:Option (Value × List UInt8)) (e:Ending) (w':World):Prop :=
 match r with
 | some v=>e=.returned v.1∧RdB b s (s.size - v.2.length) q w'∧Fr [b] w w'
 | none=>(∃ x,x≠0∧e=gave x)∧Fr [b] w w'
def onN (f:Nat→Value):Option (Nat × List UInt8)→Option (Value × List UInt8)
 | none=>none
 | some r=>some (f r.1,r.2)
/-- a number's first bits, and what is read behind them -/
def addU (a i:Nat):Option (Nat × List UInt8)→Option (Nat × List UInt8)
 | none=>none
 | some r=>some (a+128 ^ i*r.1,r.2)
theorem addU_zero (r:Option (Nat × List UInt8)):addU 0 0 r=r:=by
 cases r with
 | none=>rfl
 | some r=>simp[addU]
theorem rdUF_nil {f:Nat} {l:List UInt8} {k:Nat} (h:l.length≤k):rdUF f (l.drop k)=none:=by
 rw[List.drop_eq_nil_of_le h];cases f<;>rfl
theorem drop_byte {l:List UInt8} {k:Nat} (h:k<l.length):l.drop k=l.getD k 0::l.drop (k+1):=by
 have e:l.getD k 0=l[k]:=by simp[List.getD,h]
 rw[List.drop_eq_getElem_cons h,e]
theorem rdUF_bad {f k:Nat} {l:List UInt8} (hk:k<l.length) (h:(f=0∧1<(l.getD k 0).toNat)∨(f<9∧(l.getD k 0).toNat=0)):rdUF (f+1) (l.drop k)=none:=by
 rw[drop_byte hk,rdUF,if_pos h]
theorem rdUF_end {f k:Nat} {l:List UInt8} (hk:k<l.length) (h:¬ ((f=0∧1<(l.getD k 0).toNat)∨(f<9∧(l.getD k 0).toNat=0))) (h2:(l.getD k 0).toNat<128):rdUF (f+1) (l.drop k)=some ((l.getD k 0).toNat,l.drop (k+1)):=by
 rw[drop_byte hk,rdUF,if_neg h,if_pos h2]
theorem rdUF_go {f k:Nat} {l:List UInt8} (hk:k<l.length) (h:¬ ((f=0∧1<(l.getD k 0).toNat)∨(f<9∧(l.getD k 0).toNat=0))) (h2:¬ (l.getD k 0).toNat<128) :
  rdUF (f+1) (l.drop k)=(match rdUF f (l.drop (k+1)) with|none=>none|some r=>some ((l.getD k 0).toNat % 128+128*r.1,r.2)):=by
 rw[drop_byte hk,rdUF,if_neg h,if_neg h2];rfl
theorem and_127:∀ k:Nat,k<256→bits .and .u8 (k:Int) 127=((k % 128:Nat):Int):=by decide +kernel
theorem pow_128 (i:Nat):(2:Nat) ^ (7*i)=128 ^ i:=by rw[Nat.pow_mul]
theorem bits7 {i a c:Nat} (hi:i≤9) (ha:a<128 ^ i) (hc:c<256) (h9:i=9→c≤1) :
  bits .or .u64 (a:Int) (IntKind.u64.wrap (IntKind.u64.wrap (bits .and .u8 (c:Int) 127)*2 ^ (7*i)))=((a+128 ^ i*(c % 128):Nat):Int):=by
 have hp:128 ^ i≤128 ^ 9:=Nat.pow_le_pow_right (by omega) hi;have hm:128 ^ i*(c % 128)<18446744073709551616:=by
  by_cases h:i=9
  ·subst h;have:=h9 rfl;have:c % 128≤1:=by omega
   calc 128 ^ 9*(c % 128)≤128 ^ 9*1:=Nat.mul_le_mul_left _ this
    _<18446744073709551616:=by decide
  ·have h8:128 ^ i≤128 ^ 8:=Nat.pow_le_pow_right (by omega) (by omega);have h7:c % 128≤127:=by omega
   calc 128 ^ i*(c % 128)≤128 ^ 8*127:=Nat.mul_le_mul h8 h7
    _<18446744073709551616:=by decide
 have ha2:a<18446744073709551616:=Nat.lt_of_lt_of_le ha (Nat.le_trans hp (by decide));rw[and_127 c hc];have e1:IntKind.u64.wrap ((c % 128:Nat):Int)=((c % 128:Nat):Int):=by rw[IntKind.wrap_u64];omega
 have e2:((c % 128:Nat):Int)*2 ^ (7*i)=((128 ^ i*(c % 128):Nat):Int):=by
  rw[Int.natCast_mul,←pow_128,Int.natCast_pow,Int.mul_comm];rfl
 have e3:IntKind.u64.wrap ((128 ^ i*(c % 128):Nat):Int)=((128 ^ i*(c % 128):Nat):Int):=by rw[IntKind.wrap_u64];omega
 rw[e1,e2,e3,bits_or_u64_nat a _ ha2 hm];congr 1
 have h:=Nat.shiftLeft_add_eq_or_of_lt (i:=7*i) (b:=a) (by rw[pow_128];exact ha) (c % 128);rw[Nat.shiftLeft_eq,pow_128]at h;rw[Nat.or_comm,Nat.mul_comm,←h];omega
theorem addU_end {a i c:Nat} {r:List UInt8} (h:c<128):addU a i (some (c,r))=some (a+128 ^ i*(c % 128),r):=by
 rw[Nat.mod_eq_of_lt h];rfl
theorem addU_go (a i c:Nat) (r:Option (Nat × List UInt8)):addU a i (match r with|none=>none|some r=>some (c % 128+128*r.1,r.2))=addU (a+128 ^ i*(c % 128)) (i+1) r:=by
 cases r with
 | none=>rfl
 | some r =>
  simp only[addU,Option.some.injEq,Prod.mk.injEq,and_true];rw[Nat.pow_succ,Nat.mul_add,Nat.mul_assoc];omega
theorem acc_lt {a i c:Nat} (ha:a<128 ^ i):a+128 ^ i*(c % 128)<128 ^ (i+1):=by
 have h7:c % 128≤127:=by omega
 have:=Nat.mul_le_mul_left (128 ^ i) h7;rw[Nat.pow_succ];omega
theorem cuintR_any (s:ByteArray) (hs:s.size≤100000000) (b k q:Nat) (hk:k≤s.size) (w:World) (hb:RdB b s k q w) :
  Calls Tryz.prog 85 #[.pointer (some ⟨b,0,none⟩)] w (RdPost b s q w (onN (fun n=>.int .u64 (n:Int)) (rdU (s.data.toList.drop k)))):=by
 have hl:s.data.toList.length=s.size:=by simp
 have HL:=zh hl;clear hl;have HN:=zh (fun k hk w hb=>cbyte_no s b k q hk w hb);have HY:=zh (fun k hk w hb=>cbyte_yes s (by omega) b k q hk w hb);have HMy:=zh (cmust_yes 5);have HMn:=zh (cmust_no 5);go_in;go_wp2_with fail
 go_loopw [2,3] (fun nv iv wr=>∃ i a:Nat,nv=.int .u64 (a:Int)∧iv=.int .i64 (i:Int)∧i≤9∧a<128 ^ i∧k+i≤s.size∧RdB b s (k+i) q wr∧Fr [b] w wr∧Hid (rdU (s.data.toList.drop k)=addU a i (rdUF (10 - i) (s.data.toList.drop (k+i))))) (fun _ iv _=>10 - (intOf iv).toNat)
 case atStart=>exact⟨0,0,rfl,rfl,by omega,by omega,by omega,hb,Fr.refl _ _,by show _=_;rw[addU_zero];rfl⟩
 case round =>
  obtain⟨i,a,rfl,rfl,hi,ha,hki,hrd,hfr,hE⟩:=hrel;by_cases hlt:k+i<s.size
  ·have hg:(s[k+i]'hlt)=s.data.toList.getD (k+i) 0:=by simp[List.getD,hlt];rfl
   have HYY:=zh (HY.out (k+i) hlt wr hrd);have HG:=zh hg;clear hg;have hc:=(s[k+i]'hlt).toNat_lt;generalize s[k+i]'hlt=c at *;have t10:decide ((i:Int)<10)=true:=by simp;omega
   by_cases hbad:(i=9∧1<c.toNat)∨(0<i∧c.toNat=0)
   ·have hb2:=rdUF_bad (f:=9 - i) (k:=k+i) (l:=s.data.toList) (by rw[HL.out];exact hlt) (by rw[←HG.out];omega);rw[show 9 - i+1=10 - i by omega]at hb2;have HB:=zh hb2;clear hb2;have hcase:(decide ((i:Int)<9)=false∧decide ((c.toNat:Int)≤1)=false)∨(decide ((i:Int)<9)=true∧((i:Int)==0)=false∧((c.toNat:Int) != 0)=false)∨(decide ((i:Int)<9)=false∧decide ((c.toNat:Int)≤1)=true∧((i:Int)==0)=false∧((c.toNat:Int) != 0)=false):=by
     simp;omega
    have HR:=hE.out;rw[HB.out]at HR;have HR:=zh HR;clear hbad;rcases hcase with ⟨t1,t2⟩|⟨t1,t3,t4⟩|⟨t1,t2,t3,t4⟩;all_goals
     go_wp2_with fail
     refine(HYY.out).mono ?_;rintro e w1 ⟨rfl,hr1,hf1⟩;go_wp2_with fail
     refine(HMn.out _).mono ?_;rintro e w2 ⟨rfl,rfl⟩;go_wp2_with fail
     exact⟨rfl,by rw[HR.out];exact⟨⟨5,by decide,rfl⟩,hfr.trans hf1⟩⟩
   ·by_cases h128:c.toNat<128
    ·have t5:decide ((c.toNat:Int)<128)=true:=by simp;omega
     have hb2:=rdUF_end (f:=9 - i) (k:=k+i) (l:=s.data.toList) (by rw[HL.out];exact hlt) (by rw[←HG.out];omega) (by rw[←HG.out];exact h128);rw[show 9 - i+1=10 - i by omega,←HG.out]at hb2;have HB:=zh hb2;clear hb2;have hcase:(decide ((i:Int)<9)=true∧((i:Int)==0)=true)∨(decide ((i:Int)<9)=true∧((i:Int)==0)=false∧((c.toNat:Int) != 0)=true)∨(decide ((i:Int)<9)=false∧decide ((c.toNat:Int)≤1)=true∧((i:Int)==0)=false∧((c.toNat:Int) != 0)=true):=by
      simp;omega
     have HX:=zh (bits7 hi ha hc (by omega));clear hbad;rcases hcase with ⟨t1,t3⟩|⟨t1,t3,t4⟩|⟨t1,t2,t3,t4⟩;all_goals
      go_wp2_with fail
      refine(HYY.out).mono ?_;rintro e w1 ⟨rfl,hr1,hf1⟩;go_wp2_with fail
      refine(HMy.out _).mono ?_;rintro e w2 ⟨rfl,rfl⟩;go_wp2_with fail
      go_ret;rw[hE.out,HB.out,addU_end h128];exact⟨ret_val (congrArg (Value.int .u64) HX.out),by
       rw[show s.size - (s.data.toList.drop (k+i+1)).length=k+i+1 by rw[List.length_drop,HL.out];omega];exact hr1,hfr.trans hf1⟩
    ·have t5:decide ((c.toNat:Int)<128)=false:=by simp;omega
     have hb2:=rdUF_go (f:=9 - i) (k:=k+i) (l:=s.data.toList) (by rw[HL.out];exact hlt) (by rw[←HG.out];omega) (by rw[←HG.out];exact h128);rw[show 9 - i+1=10 - i by omega,←HG.out]at hb2;have HB:=zh hb2;clear hb2;have h9:i≤8:=by omega
     have hcase:(decide ((i:Int)<9)=true∧((i:Int)==0)=true)∨(decide ((i:Int)<9)=true∧((i:Int)==0)=false∧((c.toNat:Int) != 0)=true):=by
      simp;omega
     have HX:=zh (bits7 hi ha hc (by omega));clear hbad;rcases hcase with ⟨t1,t3⟩|⟨t1,t3,t4⟩;all_goals
      go_wp2_with fail
      refine(HYY.out).mono ?_;rintro e w1 ⟨rfl,hr1,hf1⟩;go_wp2_with fail
      refine(HMy.out _).mono ?_;rintro e w2 ⟨rfl,rfl⟩;go_wp2_with fail
      go_roundw
      case rel=>exact⟨i+1,a+128 ^ i*(c.toNat % 128),congrArg (Value.int .u64) HX.out,by go_num,by omega,acc_lt ha,by omega,hr1,hfr.trans hf1,by show _=_;rw[hE.out,HB.out,addU_go,show 10 - (i+1)=9 - i by omega];rfl⟩
      case measure=>simp[intOf];omega
  ·have HB:=zh (rdUF_nil (f:=10 - i) (l:=s.data.toList) (k:=k+i) (by rw[HL.out];omega));have HNN:=zh (HN.out (k+i) (by omega) wr hrd);go_wp2_with fail
   refine(HNN.out).mono ?_;rintro e w1 ⟨rfl,hf1⟩;go_wp2_with fail
   exact⟨rfl,by rw[hE.out,HB.out];exact⟨⟨14,by decide,rfl⟩,hfr.trans hf1⟩⟩
end
end Go.Proofs.YtepaaochgljcdaaGreatDoor
