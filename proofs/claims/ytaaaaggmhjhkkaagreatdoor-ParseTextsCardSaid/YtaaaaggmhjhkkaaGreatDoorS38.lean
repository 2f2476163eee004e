/-
  H1 in one text.
-/
import Derived.Test.YtaaaaggmhjhkkaaGreatDoorS34
import Derived.Test.YtaaaaggmhjhkkaaGreatDoorS37
import Derived.Test.YtaaaaggmhjhkkaaGreatDoorCl
set_option maxRecDepth 100000
set_option maxHeartbeats 4000000
namespace Go.Proofs.YtaaaaggmhjhkkaaGreatDoor
open Go.RowKit
mutual
/-- how deep, looked at so far -/
def depthE:ET→Nat→Nat
 | .mk _ _ _ _ its,far=>if far=0 then 1 else depthEL its (far - 1)+1
def depthEL:List ET→Nat→Nat
 | [],_=>0
 | x::xs,far=>max (depthE x far) (depthEL xs far)
end
theorem depthEL_drop {l:List ET} {i m:Nat} (hi:i<l.length):depthEL (l.drop i) m=max (depthE (l.getD i noET) m) (depthEL (l.drop (i+1)) m):=by
 have e:l.getD i noET=l[i]:=by simp[List.getD,hi]
 rw[List.drop_eq_getElem_cons hi,depthEL,e]
mutual
theorem depthE_le:∀ (v:ET) (n:Nat),depthE v n≤n+1
 | .mk _ _ _ _ its,n=>by
  rw[depthE];split
  ·omega
  ·have:=depthEL_le its (n - 1);omega
theorem depthEL_le:∀ (l:List ET) (n:Nat),depthEL l n≤n+1
 | [],n=>by rw[depthEL];omega
 | x::xs,n=>by
  rw[depthEL];have h1:=depthE_le x n;have h2:=depthEL_le xs n;omega
end
mutual
/-- small enough to be gone over -/
def smallE:ET→Bool
 | .mk k s v ns ks=>(decide (depthE (.mk k s v ns ks) 40≤30)&&(decide (countE (.mk k s v ns ks) 0<500)&&smallB v))&&smallEL ks
def smallEL:List ET→Bool
 | []=>true
 | x::xs=>smallE x&&smallEL xs
end
theorem smallE_eq (x:ET):smallE x=((decide (depthE x 40≤30)&&(decide (countE x 0<500)&&smallB x.v))&&smallEL x.kids):=by cases x;rw[smallE];rfl
theorem smallEL_drop {l:List ET} {i:Nat} (hi:i<l.length):smallEL (l.drop i)=(smallE (l.getD i noET)&&smallEL (l.drop (i+1))):=by
 have e:l.getD i noET=l[i]:=by simp[List.getD,hi]
 rw[List.drop_eq_getElem_cons hi,smallEL,e]
theorem smallEL_end {l:List ET} {i:Nat} (hi:l.length≤i):smallEL (l.drop i)=true:=by rw[List.drop_eq_nil_of_le hi,smallEL]
theorem rdepthE_any:∀ (d:Nat) (x:ET) (cs:Array Value) (n:Nat) (w:World),ExAt' w d x cs→n≤1000 →
  Calls Tryz.prog 21 #[.agg cs,.int .i64 (n:Int)] w (Gives (.int .i64 (depthE x n:Nat)) w)
 | 0,_,_,_,_,h,_=>h.elim
 | d+1,x,cs,n,w,h,hn=>by
  obtain⟨qn,qi,pn,pk,rfl,h2,h3,h4,h5,h7,h8⟩:=h;have ih:=zh (rdepthE_any d);clear h4;have hcv:depthE x n=if n=0 then 1 else depthEL x.kids (n - 1)+1:=by cases x;rw[depthE];rfl
  have HCV:=zh hcv;clear hcv;clear h2 h3 h5;have hB:Below w.heap.size w (w.alloc (.cells #[.int .i64 x.kind,.string ⟨x.str.toArray⟩,.int .i64 x.v.kind,.int .i64 x.v.num,.float .f64 x.v.flt,.string ⟨x.v.str.toArray⟩,qn,qi,pn,pk] 29)):=(Below.refl _ _).alloc (Nat.le_refl _) _;have hnew:(w.alloc (.cells #[.int .i64 x.kind,.string ⟨x.str.toArray⟩,.int .i64 x.v.kind,.int .i64 x.v.num,.float .f64 x.v.flt,.string ⟨x.v.str.toArray⟩,qn,qi,pn,pk] 29)).heap[w.heap.size]?=some (.cells #[.int .i64 x.kind,.string ⟨x.str.toArray⟩,.int .i64 x.v.kind,.int .i64 x.v.num,.float .f64 x.v.flt,.string ⟨x.v.str.toArray⟩,qn,qi,pn,pk] 29 (0,0)):=heap_alloc_new w _;have hK:w.heap.size+1=(w.alloc (.cells #[.int .i64 x.kind,.string ⟨x.str.toArray⟩,.int .i64 x.v.kind,.int .i64 x.v.num,.float .f64 x.v.flt,.string ⟨x.v.str.toArray⟩,qn,qi,pn,pk] 29)).heap.size:=by simp
  obtain⟨its,hits⟩:∃ its,its=x.kids:=⟨_,rfl⟩;rw[←hits]at h7 h8 HCV;have h8':∃ p cap,pk=.slice p its.length cap∧∀ i,i<its.length→∃ g off,p=some ⟨g,off,none⟩∧g<w.heap.size∧∃ ds,ExAt' w d (its.getD i noET) ds∧∀ j,j<10→w.cell? ⟨g,off+i*10+j,none⟩=ds[j]?:=by
   rcases h8 with ⟨h8,p,c,hp⟩|⟨g,off,cap,hp,hg,hc⟩
   ·subst h8;exact⟨p,c,hp,fun i hi=>absurd hi (by simp)⟩
   ·exact⟨_,cap,hp,fun i hi=>⟨g,off,rfl,hg.2,hc i hi⟩⟩
  obtain⟨p,cap,rfl,h9⟩:=h8';have H9:=zh h9;clear h8 h9 hits;generalize hN:its.length=N at *;have HN:=zh hN;clear hN;go_in;go_wp2_with fail
  generalize w.alloc (.cells #[.int .i64 x.kind,.string ⟨x.str.toArray⟩,.int .i64 x.v.kind,.int .i64 x.v.num,.float .f64 x.v.flt,.string ⟨x.v.str.toArray⟩,qn,qi,pn,.slice p N cap] 29)=W0 at *;generalize hgh:w.heap.size=H at *;have HH:=zh hgh;clear hgh;have hW0:H<W0.heap.size:=by omega
  clear hK;have hB8:=Below.refl W0.heap.size W0;generalize hG:W0.heap.size=G at *;have HG:=zh hG;clear hG;go_loopw [5,6] (fun mv iv wr=>∃ i m:Nat,i≤N∧m≤2000∧mv=.int .i64 m∧iv=.int .i64 i∧Below G W0 wr∧(n=0→m=0)∧Hid (n≠0→depthEL its (n - 1)=max m (depthEL (its.drop i) (n - 1)))) (fun _ iv _=>N - (intOf iv).toNat)
  case atStart=>exact⟨0,0,by omega,by omega,rfl,rfl,hB8,fun _=>rfl,fun _=>by rw[List.drop_zero,Nat.zero_max]⟩
  case round =>
   clear hB8;obtain⟨i,m,hi,hm,rfl,rfl,hBr,hm0,hcn⟩:=hrel;have hGr:G≤wr.heap.size:=by have:=hBr.size;rw[HG.out]at this;exact this
   have hBw:Below H w wr:=hB.trans (hBr.mono (by omega));have r9:wr.cell? ⟨H,9,none⟩=some (.slice p N cap):=(hBr.cell (p:=⟨H,9,none⟩) (by show H<G;omega)).trans (by simp[World.cell?,hnew]);by_cases hlt:i<N
   ·have t0:decide ((i:Int)<(N:Int))=true:=by simp;omega
    by_cases h5:0<n
    ·have t1:decide ((0:Int)<(n:Int))=true:=by simp;omega
     obtain⟨g,off,rfl,hg,ds,hv,hcl⟩:=H9.out i hlt;obtain⟨qn2,qi2,pn2,pk2,rfl⟩:=hv.form;have x0:wr.cell? ⟨g,off+i*10,none⟩=some (.int .i64 (its.getD i noET).kind):=(hBw.cell (p:=⟨g,off+i*10+0,none⟩) hg).trans (hcl 0 (by decide));have x1:wr.cell? ⟨g,off+i*10+1,none⟩=some (.string ⟨(its.getD i noET).str.toArray⟩):=(hBw.cell (p:=⟨g,off+i*10+1,none⟩) hg).trans (hcl 1 (by decide));have x2:wr.cell? ⟨g,off+i*10+2,none⟩=some (.int .i64 (its.getD i noET).v.kind):=(hBw.cell (p:=⟨g,off+i*10+2,none⟩) hg).trans (hcl 2 (by decide));have x3:wr.cell? ⟨g,off+i*10+3,none⟩=some (.int .i64 (its.getD i noET).v.num):=(hBw.cell (p:=⟨g,off+i*10+3,none⟩) hg).trans (hcl 3 (by decide));have x4:wr.cell? ⟨g,off+i*10+4,none⟩=some (.float .f64 (its.getD i noET).v.flt):=(hBw.cell (p:=⟨g,off+i*10+4,none⟩) hg).trans (hcl 4 (by decide));have x5:wr.cell? ⟨g,off+i*10+5,none⟩=some (.string ⟨(its.getD i noET).v.str.toArray⟩):=(hBw.cell (p:=⟨g,off+i*10+5,none⟩) hg).trans (hcl 5 (by decide));have x6:wr.cell? ⟨g,off+i*10+6,none⟩=some (qn2):=(hBw.cell (p:=⟨g,off+i*10+6,none⟩) hg).trans (hcl 6 (by decide));have x7:wr.cell? ⟨g,off+i*10+7,none⟩=some (qi2):=(hBw.cell (p:=⟨g,off+i*10+7,none⟩) hg).trans (hcl 7 (by decide));have x8:wr.cell? ⟨g,off+i*10+8,none⟩=some (pn2):=(hBw.cell (p:=⟨g,off+i*10+8,none⟩) hg).trans (hcl 8 (by decide));have x9:wr.cell? ⟨g,off+i*10+9,none⟩=some (pk2):=(hBw.cell (p:=⟨g,off+i*10+9,none⟩) hg).trans (hcl 9 (by decide));have hv2:=hv.keptA (w':=wr) (by rw[HH.out];exact hBw);have HC:=zh (ih.out _ _ (n - 1) wr hv2 (by omega));have hdn:=depthEL_drop (l:=its) (i:=i) (m:=n - 1) (by rw[HN.out];exact hlt);have HD:=zh hdn;have hle:=depthE_le (its.getD i noET) (n - 1);generalize its.getD i noET=k at *;generalize depthE k (n - 1)=m2 at *;have b1:(0:Int)≤(i:Int):=by omega
     have b2:(i:Int)<(N:Int):=by omega
     have hn1:((n - 1:Nat):Int)=(n:Int) - 1:=by omega
     rw[hn1]at HC;have hmx:max (m:Int) (m2:Int)=((max m m2:Nat):Int):=by omega
     clear hdn hcl hv hv2 hn1;go_wp2_with fail
     refine(HC.out).mono ?_;rintro e w5 ⟨rfl,hb5⟩;have hB6:=hBr.trans (hb5.mono hGr);go_wp2_with fail
     go_roundw
     case rel=>exact⟨i+1,max m m2,by omega,by omega,rfl,by go_num,hB6,fun h=>absurd h (by omega),fun h=>by rw[hcn.out h,HD.out,Nat.max_assoc]⟩
     case measure=>simp[intOf];omega
    ·have t1:decide ((0:Int)<(n:Int))=false:=by simp;omega
     have hn0:n=0:=by omega
     have HF:=zh (show depthE x n=m+1 from by rw[HCV.out,if_pos hn0,hm0 hn0]);clear hn0;go_wp2_with fail
     go_ret;exact⟨ret_val (by rw[HF.out];rfl),by rw[HH.out];exact hBw⟩
   ·have t0:decide ((i:Int)<(N:Int))=false:=by simp;omega
    have HF:=zh (show depthE x n=m+1 from by
     rw[HCV.out];by_cases h0:n=0
     ·rw[if_pos h0,hm0 h0]
     ·rw[if_neg h0,hcn.out h0,List.drop_eq_nil_of_le (by rw[HN.out];omega),depthEL,Nat.max_zero])
    go_wp2_with fail
    go_ret;exact⟨ret_val (by rw[HF.out];rfl),by rw[HH.out];exact hBw⟩
theorem rsmallE_any:∀ (d:Nat) (x:ET) (cs:Array Value) (w:World),ExAt' w d x cs→Calls Tryz.prog 8 #[.agg cs] w (Gives (.bool (smallE x)) w)
 | 0,_,_,_,h=>h.elim
 | d+1,x,cs,w,h=>by
  have hall:=h;obtain⟨qn,qi,pn,pk,rfl,h2,h3,h4,h5,h7,h8⟩:=h;have ih:=zh (rsmallE_any d);obtain⟨dv,h4⟩:=h4;have HCV:=zh (smallE_eq x);clear h2 h3 h5;have hB:Below w.heap.size w (w.alloc (.cells #[.int .i64 x.kind,.string ⟨x.str.toArray⟩,.int .i64 x.v.kind,.int .i64 x.v.num,.float .f64 x.v.flt,.string ⟨x.v.str.toArray⟩,qn,qi,pn,pk] 29)):=(Below.refl _ _).alloc (Nat.le_refl _) _;have hnew:(w.alloc (.cells #[.int .i64 x.kind,.string ⟨x.str.toArray⟩,.int .i64 x.v.kind,.int .i64 x.v.num,.float .f64 x.v.flt,.string ⟨x.v.str.toArray⟩,qn,qi,pn,pk] 29)).heap[w.heap.size]?=some (.cells #[.int .i64 x.kind,.string ⟨x.str.toArray⟩,.int .i64 x.v.kind,.int .i64 x.v.num,.float .f64 x.v.flt,.string ⟨x.v.str.toArray⟩,qn,qi,pn,pk] 29 (0,0)):=heap_alloc_new w _;have hK:w.heap.size+1=(w.alloc (.cells #[.int .i64 x.kind,.string ⟨x.str.toArray⟩,.int .i64 x.v.kind,.int .i64 x.v.num,.float .f64 x.v.flt,.string ⟨x.v.str.toArray⟩,qn,qi,pn,pk] 29)).heap.size:=by simp
  obtain⟨its,hits⟩:∃ its,its=x.kids:=⟨_,rfl⟩;rw[←hits]at h7 h8 HCV;have h8':∃ p cap,pk=.slice p its.length cap∧∀ i,i<its.length→∃ g off,p=some ⟨g,off,none⟩∧g<w.heap.size∧∃ ds,ExAt' w d (its.getD i noET) ds∧∀ j,j<10→w.cell? ⟨g,off+i*10+j,none⟩=ds[j]?:=by
   rcases h8 with ⟨h8,p,c,hp⟩|⟨g,off,cap,hp,hg,hc⟩
   ·subst h8;exact⟨p,c,hp,fun i hi=>absurd hi (by simp)⟩
   ·exact⟨_,cap,hp,fun i hi=>⟨g,off,rfl,hg.2,hc i hi⟩⟩
  obtain⟨p,cap,rfl,h9⟩:=h8';have H9:=zh h9;clear h8 h9 hits;generalize hN:its.length=N at *;have HN:=zh hN;clear hN;have hall2:=hall.keptA hB;have hv2:=(h4.at).kept hB;have HD:=zh (rdepthE_any (d+1) x _ 40 _ hall2 (by omega));have HP:=zh (fun w2 k=>rpartsE_any (d+1) x _ w2 (hall2.keptA k));have HSm:=zh (fun w2 k=>rsmall_any (dv+1) x.v _ w2 (hv2.kept k));clear hall hall2 h4 hv2;generalize depthE x 40=a at *;generalize countE x 0=b at *;by_cases ha:a≤30
  ·have t1:decide ((30:Int)<(a:Int))=false:=by simp;omega
   have HA:=zh (show decide (a≤30)=true from decide_eq_true ha);clear ha;go_in;go_wp2_with fail
   refine(HD.out).mono ?_;rintro e w2 ⟨rfl,k2⟩;have v0:w2.cell? ⟨w.heap.size,0,none⟩=some (.int .i64 x.kind):=(k2.cell (p:=⟨w.heap.size,0,none⟩) (by simp)).trans (by rw[zc hnew];rfl);have v1:w2.cell? ⟨w.heap.size,1,none⟩=some (.string ⟨x.str.toArray⟩):=(k2.cell (p:=⟨w.heap.size,1,none⟩) (by simp)).trans (by rw[zc hnew];rfl);have v2:w2.cell? ⟨w.heap.size,2,none⟩=some (.int .i64 x.v.kind):=(k2.cell (p:=⟨w.heap.size,2,none⟩) (by simp)).trans (by rw[zc hnew];rfl);have v3:w2.cell? ⟨w.heap.size,3,none⟩=some (.int .i64 x.v.num):=(k2.cell (p:=⟨w.heap.size,3,none⟩) (by simp)).trans (by rw[zc hnew];rfl);have v4:w2.cell? ⟨w.heap.size,4,none⟩=some (.float .f64 x.v.flt):=(k2.cell (p:=⟨w.heap.size,4,none⟩) (by simp)).trans (by rw[zc hnew];rfl);have v5:w2.cell? ⟨w.heap.size,5,none⟩=some (.string ⟨x.v.str.toArray⟩):=(k2.cell (p:=⟨w.heap.size,5,none⟩) (by simp)).trans (by rw[zc hnew];rfl);have v6:w2.cell? ⟨w.heap.size,6,none⟩=some (qn):=(k2.cell (p:=⟨w.heap.size,6,none⟩) (by simp)).trans (by rw[zc hnew];rfl);have v7:w2.cell? ⟨w.heap.size,7,none⟩=some (qi):=(k2.cell (p:=⟨w.heap.size,7,none⟩) (by simp)).trans (by rw[zc hnew];rfl);have v8:w2.cell? ⟨w.heap.size,8,none⟩=some (pn):=(k2.cell (p:=⟨w.heap.size,8,none⟩) (by simp)).trans (by rw[zc hnew];rfl);have v9:w2.cell? ⟨w.heap.size,9,none⟩=some (.slice p N cap):=(k2.cell (p:=⟨w.heap.size,9,none⟩) (by simp)).trans (by rw[zc hnew];rfl);by_cases hb:b<500
   ·have t2:decide ((500:Int)≤(b:Int))=false:=by simp;omega
    have HB:=zh (show decide (b<500)=true from decide_eq_true hb);clear hb;go_wp2_with fail
    refine(HP.out _ k2).mono ?_;rintro e w3 ⟨rfl,k3⟩;have k3':=below_tr' k2 k3;clear v0 v1 v2 v3 v4 v5 v6 v7 v8 v9;have v0:w3.cell? ⟨w.heap.size,0,none⟩=some (.int .i64 x.kind):=(k3'.cell (p:=⟨w.heap.size,0,none⟩) (by simp)).trans (by rw[zc hnew];rfl);have v1:w3.cell? ⟨w.heap.size,1,none⟩=some (.string ⟨x.str.toArray⟩):=(k3'.cell (p:=⟨w.heap.size,1,none⟩) (by simp)).trans (by rw[zc hnew];rfl);have v2:w3.cell? ⟨w.heap.size,2,none⟩=some (.int .i64 x.v.kind):=(k3'.cell (p:=⟨w.heap.size,2,none⟩) (by simp)).trans (by rw[zc hnew];rfl);have v3:w3.cell? ⟨w.heap.size,3,none⟩=some (.int .i64 x.v.num):=(k3'.cell (p:=⟨w.heap.size,3,none⟩) (by simp)).trans (by rw[zc hnew];rfl);have v4:w3.cell? ⟨w.heap.size,4,none⟩=some (.float .f64 x.v.flt):=(k3'.cell (p:=⟨w.heap.size,4,none⟩) (by simp)).trans (by rw[zc hnew];rfl);have v5:w3.cell? ⟨w.heap.size,5,none⟩=some (.string ⟨x.v.str.toArray⟩):=(k3'.cell (p:=⟨w.heap.size,5,none⟩) (by simp)).trans (by rw[zc hnew];rfl);have v6:w3.cell? ⟨w.heap.size,6,none⟩=some (qn):=(k3'.cell (p:=⟨w.heap.size,6,none⟩) (by simp)).trans (by rw[zc hnew];rfl);have v7:w3.cell? ⟨w.heap.size,7,none⟩=some (qi):=(k3'.cell (p:=⟨w.heap.size,7,none⟩) (by simp)).trans (by rw[zc hnew];rfl);have v8:w3.cell? ⟨w.heap.size,8,none⟩=some (pn):=(k3'.cell (p:=⟨w.heap.size,8,none⟩) (by simp)).trans (by rw[zc hnew];rfl);have v9:w3.cell? ⟨w.heap.size,9,none⟩=some (.slice p N cap):=(k3'.cell (p:=⟨w.heap.size,9,none⟩) (by simp)).trans (by rw[zc hnew];rfl);cases hs:smallB x.v
    ·have HT:=HSm.out _ k3';rw[hs]at HT;have HT:=zh HT;have HC:=zh hs;clear hs;go_wp2_with fail
     refine(HT.out).mono ?_;rintro e w4 ⟨rfl,k4⟩;go_wp2_with fail
     go_ret;exact⟨ret_val (by rw[HCV.out,HA.out,HB.out,HC.out];rfl),hB.trans ((below_tr' k3' k4).mono (by simp))⟩
    ·have HT:=HSm.out _ k3';rw[hs]at HT;have HT:=zh HT;have HC:=zh (show smallE x=smallEL its from by rw[HCV.out,HA.out,HB.out,hs];simp);clear hs;go_wp2_with fail
     refine(HT.out).mono ?_;rintro e w4 ⟨rfl,k4⟩;have k4':=below_tr' k3' k4;clear v0 v1 v2 v3 v4 v5 v6 v7 v8 v9 HT HSm HP HD HCV HA HB t1 t2;have hW0:w.heap.size<(w.alloc (.cells #[.int .i64 x.kind,.string ⟨x.str.toArray⟩,.int .i64 x.v.kind,.int .i64 x.v.num,.float .f64 x.v.flt,.string ⟨x.v.str.toArray⟩,qn,qi,pn,.slice p N cap] 29)).heap.size:=by omega
     clear hK;generalize w.alloc (.cells #[.int .i64 x.kind,.string ⟨x.str.toArray⟩,.int .i64 x.v.kind,.int .i64 x.v.num,.float .f64 x.v.flt,.string ⟨x.v.str.toArray⟩,qn,qi,pn,.slice p N cap] 29)=W0 at *;generalize hgh:w.heap.size=H at *;have HH:=zh hgh;clear hgh;generalize hG:W0.heap.size=G at *;have HG:=zh hG;clear hG;go_wp2_with fail
     go_loopw [3] (fun iv wr=>∃ i:Nat,i≤N∧iv=.int .i64 i∧Below G W0 wr∧Hid (smallE x=smallEL (its.drop i))) (fun iv _=>N - (intOf iv).toNat)
     case atStart=>exact⟨0,by omega,rfl,k4',by show _=_;rw[List.drop_zero,HC.out]⟩
     case round =>
      clear k4' k4 k3' k3 k2;obtain⟨i,hi,rfl,hBr,hcn⟩:=hrel;have hGr:G≤wr.heap.size:=by have:=hBr.size;rw[HG.out]at this;exact this
      have hBw:Below H w wr:=hB.trans (hBr.mono (by omega));have r9:wr.cell? ⟨H,9,none⟩=some (.slice p N cap):=(hBr.cell (p:=⟨H,9,none⟩) (by show H<G;omega)).trans (by simp[World.cell?,hnew]);by_cases hlt:i<N
      ·have t0:decide ((i:Int)<(N:Int))=true:=by simp;omega
       obtain⟨g,off,rfl,hg,ds,hv,hcl⟩:=H9.out i hlt;obtain⟨qn2,qi2,pn2,pk2,rfl⟩:=hv.form;have x0:wr.cell? ⟨g,off+i*10,none⟩=some (.int .i64 (its.getD i noET).kind):=(hBw.cell (p:=⟨g,off+i*10+0,none⟩) hg).trans (hcl 0 (by decide));have x1:wr.cell? ⟨g,off+i*10+1,none⟩=some (.string ⟨(its.getD i noET).str.toArray⟩):=(hBw.cell (p:=⟨g,off+i*10+1,none⟩) hg).trans (hcl 1 (by decide));have x2:wr.cell? ⟨g,off+i*10+2,none⟩=some (.int .i64 (its.getD i noET).v.kind):=(hBw.cell (p:=⟨g,off+i*10+2,none⟩) hg).trans (hcl 2 (by decide));have x3:wr.cell? ⟨g,off+i*10+3,none⟩=some (.int .i64 (its.getD i noET).v.num):=(hBw.cell (p:=⟨g,off+i*10+3,none⟩) hg).trans (hcl 3 (by decide));have x4:wr.cell? ⟨g,off+i*10+4,none⟩=some (.float .f64 (its.getD i noET).v.flt):=(hBw.cell (p:=⟨g,off+i*10+4,none⟩) hg).trans (hcl 4 (by decide));have x5:wr.cell? ⟨g,off+i*10+5,none⟩=some (.string ⟨(its.getD i noET).v.str.toArray⟩):=(hBw.cell (p:=⟨g,off+i*10+5,none⟩) hg).trans (hcl 5 (by decide));have x6:wr.cell? ⟨g,off+i*10+6,none⟩=some (qn2):=(hBw.cell (p:=⟨g,off+i*10+6,none⟩) hg).trans (hcl 6 (by decide));have x7:wr.cell? ⟨g,off+i*10+7,none⟩=some (qi2):=(hBw.cell (p:=⟨g,off+i*10+7,none⟩) hg).trans (hcl 7 (by decide));have x8:wr.cell? ⟨g,off+i*10+8,none⟩=some (pn2):=(hBw.cell (p:=⟨g,off+i*10+8,none⟩) hg).trans (hcl 8 (by decide));have x9:wr.cell? ⟨g,off+i*10+9,none⟩=some (pk2):=(hBw.cell (p:=⟨g,off+i*10+9,none⟩) hg).trans (hcl 9 (by decide));have hv2:=hv.keptA (w':=wr) (by rw[HH.out];exact hBw);have hC:=ih.out _ _ wr hv2;have hdn:=smallEL_drop (l:=its) (i:=i) (by rw[HN.out];exact hlt);generalize its.getD i noET=k at *;have b1:(0:Int)≤(i:Int):=by omega
       have b2:(i:Int)<(N:Int):=by omega
       clear hcl hv hv2;cases hk:smallE k
       ·rw[hk]at hC hdn;have HC:=zh hC;have HD:=zh hdn;clear hC hdn hk;go_wp2_with fail
        refine(HC.out).mono ?_;rintro e w5 ⟨rfl,hb5⟩;go_wp2_with fail
        go_ret;exact⟨ret_val (by rw[hcn.out,HD.out];rfl),by rw[HH.out];exact hBw.trans (hb5.mono (by omega))⟩
       ·rw[hk]at hC hdn;have HC:=zh hC;have HD:=zh hdn;clear hC hdn hk;go_wp2_with fail
        refine(HC.out).mono ?_;rintro e w5 ⟨rfl,hb5⟩;have hB6:=hBr.trans (hb5.mono hGr);go_wp2_with fail
        go_roundw
        case rel=>exact⟨i+1,by omega,by go_num,hB6,by show _=_;rw[hcn.out,HD.out,Bool.true_and]⟩
        case measure=>simp[intOf];omega
      ·have t0:decide ((i:Int)<(N:Int))=false:=by simp;omega
       have HF:=zh (smallEL_end (l:=its) (i:=i) (by rw[HN.out];omega));go_wp2_with fail
       go_ret;exact⟨ret_val (by rw[hcn.out,HF.out];rfl),by rw[HH.out];exact hBw⟩
   ·have t2:decide ((500:Int)≤(b:Int))=true:=by simp;omega
    have HB:=zh (show decide (b<500)=false from decide_eq_false hb);clear hb;go_wp2_with fail
    refine(HP.out _ k2).mono ?_;rintro e w3 ⟨rfl,k3⟩;have k3':=below_tr' k2 k3;go_wp2_with fail
    go_ret;exact⟨ret_val (by rw[HCV.out,HA.out,HB.out];rfl),hB.trans (k3'.mono (by simp))⟩
  ·have t1:decide ((30:Int)<(a:Int))=true:=by simp;omega
   have HA:=zh (show decide (a≤30)=false from decide_eq_false ha);clear ha;go_in;go_wp2_with fail
   refine(HD.out).mono ?_;rintro e w2 ⟨rfl,k2⟩;go_wp2_with fail
   go_ret;exact⟨ret_val (by rw[HCV.out,HA.out];rfl),hB.trans (k2.mono (by simp))⟩
end Go.Proofs.YtaaaaggmhjhkkaaGreatDoor
