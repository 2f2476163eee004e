/-
  Hh, Hn in one text.
-/
import Derived.Lib.QuoteBits
import Derived.Test.YtaaaaggmhjhkkaaGreatDoorS38
import Derived.Test.YtaaaaggmhjhkkaaGreatDoorS41
import Derived.Test.YtaaaaggmhjhkkaaGreatDoorS45
import Derived.Test.YtaaaaggmhjhkkaaGreatDoorS48
import Derived.Test.YtaaaaggmhjhkkaaGreatDoorCl
set_option maxRecDepth 100000
set_option maxHeartbeats 2000000
namespace Go.Proofs.YtaaaaggmhjhkkaaGreatDoor
section
open Go
theorem sgT_open {r:List UInt8} {rs:List Te} (h:TokTo r rs):TokTo (40::r) (sgT [40]::rs):=lone_sign (by decide) h
theorem sgT_shut {r:List UInt8} {rs:List Te} (h:TokTo r rs):TokTo (41::r) (sgT [41]::rs):=lone_sign (by decide) h
/-- a sign of two kids, ahead of a bracket -/
theorem op_sign {k:Int} (k1:5≤k) (k2:k≤14) {r:List UInt8} {rs:List Te} (h:TokTo (40::r) rs):TokTo (signsB.getD (k - 5).toNat []++40::r) (sgT (signsB.getD (k - 5).toNat [])::rs):=by
 have hk:k=5∨k=6∨k=7∨k=8∨k=9∨k=10∨k=11∨k=12∨k=13∨k=14:=by omega
 rcases hk with rfl|rfl|rfl|rfl|rfl|rfl|rfl|rfl|rfl|rfl
 ·exact lone_sign (c:=43) (by decide) h
 ·exact lone_sign (c:=45) (by decide) h
 ·exact lone_sign (c:=42) (by decide) h
 ·exact lone_sign (c:=47) (by decide) h
 ·exact lone_sign (c:=37) (by decide) h
 ·exact sign2 (c:=61) (d:=61) (by decide) h
 ·exact sign1 (c:=60) (by decide) (fun d q e=>by cases e;decide) h
 ·exact sign2 (c:=60) (d:=61) (by decide) h
 ·exact sign2 (c:=38) (d:=38) (by decide) h
 ·exact sign2 (c:=124) (d:=124) (by decide) h
/-- brackets around what is read as an expression, as what a sign may stand behind -/
theorem paren_at {n:Nat} {t:List Te} {x:ET} (h:PostAt n t x) (hh:HeadT t):PostAt (n+2) (sgT [40]::(t++[sgT [41]])) x∧HeadT (sgT [40]::(t++[sgT [41]])):=by
 refine⟨fun r=>?_,_,_,rfl,.inr (.inl rfl)⟩;have e:sgT [40]::(t++[sgT [41]])++r=sgT [40]::(t++sgT [41]::r):=by simp
 rw[e];unfold postF;rw[prim_paren (ex_of h hh stop_paren)]
theorem text_exp96 {x:ET} (h:rightEx x=true):PostAt 96 (toksE x) (canE x)∧HeadT (toksE x):=by
 unfold rightEx at h;rw[Bool.and_eq_true]at h;exact post_E x 12 96 h.2 (by omega)
theorem folN_shut {r:List UInt8}:FolN (41::r):=FolN.sign (by decide)
theorem pair_tokens {x y:ET} {k:Int} (k1:5≤k) (k2:k≤14) (hx:rightEx x=true) (hy:rightEx y=true) (ix:inE x) (iy:inE y) :
  TokTo (40::(textE x++41::(signsB.getD (k - 5).toNat []++40::(textE y++[41])))) (sgT [40]::(toksE x++sgT [41]::(sgT (signsB.getD (k - 5).toNat [])::(sgT [40]::(toksE y++[sgT [41]]))))) :=
 sgT_open (text_tokens hx ix _ _ folN_shut (sgT_shut (op_sign k1 k2 (sgT_open (text_tokens hy iy _ _ folN_shut (sgT_shut (.nil rfl)))))))
/-- THE LAW -/
theorem pair_plain {x y:ET} {k:Int} (k1:5≤k) (k2:k≤14) (hx:rightEx x=true) (hy:rightEx y=true) (hb:rightEx (twoE k x y)=true) (ix:inE x) (iy:inE y) (hl:(textE x).length+(textE y).length≤1900) :
  parseX (40::(textE x++41::(signsB.getD (k - 5).toNat []++40::(textE y++[41]))))=(canE (twoE k x y),0,0):=by
 have hs:(signsB.getD (k - 5).toNat []).length≤2:=by
  have hk:k=5∨k=6∨k=7∨k=8∨k=9∨k=10∨k=11∨k=12∨k=13∨k=14:=by omega
  rcases hk with rfl|rfl|rfl|rfl|rfl|rfl|rfl|rfl|rfl|rfl<;>decide
 have hl2:(40::(textE x++41::(signsB.getD (k - 5).toNat []++40::(textE y++[41])))).length≤2000:=by
  simp only[List.length_cons,List.length_append,List.length_nil];omega
 obtain⟨h2,h3⟩:=to_tokens hl2 (pair_tokens k1 k2 hx hy ix iy);obtain⟨px,qx⟩:=text_exp96 hx;obtain⟨py,qy⟩:=text_exp96 hy;obtain⟨ax,bx⟩:=paren_at px qx;obtain⟨ay,by_⟩:=paren_at py qy;have hR:=bin_ends k1 k2 ax bx ay by_ (.inl rfl);have hc:canE (twoE k x y)=twoE k (canE x) (canE y):=by
  unfold twoE;rw[canE,canEL,canEL,canEL,none_can (by decide)]
 refine parse_ok hl2 h2 ?_ (rightEx_can hb);rw[h3,hc,←hR];congr 1
 simp
mutual
theorem rightE_up:∀ (x:ET) (far:Nat),rightE x far=true→rightE x (far+1)=true
 | .mk k s v ns ks,far,h=>by
  rw[rightE]at h;rw[rightE];split at h
  ·cases h
  ·rename_i hf;rw[if_neg (by omega)];simp only[Bool.and_eq_true]at h ⊢
   refine⟨h.1,?_⟩;obtain⟨f,rfl⟩:∃ f,far=f+1:=⟨far - 1,by omega⟩;exact rightEL_up ks f h.2
theorem rightEL_up:∀ (l:List ET) (far:Nat),rightEL l far=true→rightEL l (far+1)=true
 | [],_,_=>by rw[rightEL]
 | x::xs,far,h=>by
  rw[rightEL,Bool.and_eq_true]at h;rw[rightEL,rightE_up x far h.1,rightEL_up xs far h.2];rfl
end
mutual
theorem countE_min:∀ (x:ET) (n:Nat),n<500→countE x n=min 500 (n+szE x)
 | .mk _ _ _ _ its,n,h=>by
  have:=countEL_min its (n+1) (by omega);rw[countE,szE,this];congr 1;omega
theorem countEL_min:∀ (l:List ET) (n:Nat),n≤500→countEL l n=min 500 (n+szEL l)
 | [],n,h=>by rw[countEL,szEL];omega
 | x::xs,n,h=>by
  rw[countEL,szEL];by_cases hn:500≤n
  ·rw[if_pos hn];omega
  ·rw[if_neg hn,countE_min x n (by omega),countEL_min xs _ (by omega)];omega
end
/-- the kids of a right expression of two are right -/
theorem two_right {x y:ET} {k:Int} (h:rightEx (twoE k x y)=true):rightEx x=true∧rightEx y=true:=by
 unfold rightEx at h ⊢
 rw[Bool.and_eq_true,decide_eq_true_eq]at h;have h2:=countE_min (twoE k x y) 0 (by omega);have hkr:=(right_parts h.2).2.2.2;have e:(twoE k x y).kids=[x,y]:=rfl;rw[e]at hkr;rw[rightEL,rightEL,Bool.and_eq_true,Bool.and_eq_true]at hkr;have hz:szE (twoE k x y)=szE x+szE y+1:=by unfold twoE;rw[szE,szEL,szEL,szEL];omega
 have hx:=countE_min x 0 (by omega);have hy:=countE_min y 0 (by omega);have a:=rightE_up x 11 hkr.1;have b:=rightE_up y 11 hkr.2.1;exact⟨by rw[a,Bool.and_true,decide_eq_true_eq];omega,by rw[b,Bool.and_true,decide_eq_true_eq];omega⟩
end
section
open Go.RowKit
theorem pairs_any (d:Nat) (x:ET) (cs:Array Value) (d2:Nat) (y:ET) (cs2:Array Value) (n:Int) (_hn : -9223372036854775808≤n∧n≤9223372036854775807) (w:World) (hEn:Env w) (h:ExAt' w d x cs) (h2:ExAt' w d2 y cs2) :
  Calls Tryz.prog 6 #[.agg cs,.agg cs2,.int .i64 n] w (Gives (.bool true) w):=by
 have hsf:∀ (a:Addr) (x:Nat) (m:Mode) (w:World),(store a (.float .f64 x) m).run Tryz.prog w=stored Tryz.prog w a (.float .f64 x) m:=fun a x m w=>run_store _ w a _ m rfl
 have hix:=h.inE;have hiy:=h2.inE;obtain⟨q1,r1,s1,u1,n1,m1,k1,l1,rfl⟩:=h.form4;obtain⟨q2,r2,s2,u2,n2,m2,k2,l2,rfl⟩:=h2.form4;have hB:Below w.heap.size w ((w.alloc (.cells #[.int .i64 x.kind,.string ⟨x.str.toArray⟩,.int .i64 x.v.kind,.int .i64 x.v.num,.float .f64 x.v.flt,.string ⟨x.v.str.toArray⟩,.slice q1 x.v.names.length r1,.slice s1 x.v.items.length u1,.slice n1 x.names.length m1,.slice k1 x.kids.length l1] 29)).alloc (.cells #[.int .i64 y.kind,.string ⟨y.str.toArray⟩,.int .i64 y.v.kind,.int .i64 y.v.num,.float .f64 y.v.flt,.string ⟨y.v.str.toArray⟩,.slice q2 y.v.names.length r2,.slice s2 y.v.items.length u2,.slice n2 y.names.length m2,.slice k2 y.kids.length l2] 29)):=((Below.refl _ _).alloc (Nat.le_refl _) _).alloc (by simp) _;have hnx:=heap_alloc_new w (.cells #[.int .i64 x.kind,.string ⟨x.str.toArray⟩,.int .i64 x.v.kind,.int .i64 x.v.num,.float .f64 x.v.flt,.string ⟨x.v.str.toArray⟩,.slice q1 x.v.names.length r1,.slice s1 x.v.items.length u1,.slice n1 x.names.length m1,.slice k1 x.kids.length l1] 29);have hny:=heap_alloc_new (w.alloc (.cells #[.int .i64 x.kind,.string ⟨x.str.toArray⟩,.int .i64 x.v.kind,.int .i64 x.v.num,.float .f64 x.v.flt,.string ⟨x.v.str.toArray⟩,.slice q1 x.v.names.length r1,.slice s1 x.v.items.length u1,.slice n1 x.names.length m1,.slice k1 x.kids.length l1] 29)) (.cells #[.int .i64 y.kind,.string ⟨y.str.toArray⟩,.int .i64 y.v.kind,.int .i64 y.v.num,.float .f64 y.v.flt,.string ⟨y.v.str.toArray⟩,.slice q2 y.v.names.length r2,.slice s2 y.v.items.length u2,.slice n2 y.names.length m2,.slice k2 y.kids.length l2] 29);replace hnx:=(((Below.refl (w.alloc (.cells #[.int .i64 x.kind,.string ⟨x.str.toArray⟩,.int .i64 x.v.kind,.int .i64 x.v.num,.float .f64 x.v.flt,.string ⟨x.v.str.toArray⟩,.slice q1 x.v.names.length r1,.slice s1 x.v.items.length u1,.slice n1 x.names.length m1,.slice k1 x.kids.length l1] 29)).heap.size (w.alloc (.cells #[.int .i64 x.kind,.string ⟨x.str.toArray⟩,.int .i64 x.v.kind,.int .i64 x.v.num,.float .f64 x.v.flt,.string ⟨x.v.str.toArray⟩,.slice q1 x.v.names.length r1,.slice s1 x.v.items.length u1,.slice n1 x.names.length m1,.slice k1 x.kids.length l1] 29))).alloc (Nat.le_refl _) (.cells #[.int .i64 y.kind,.string ⟨y.str.toArray⟩,.int .i64 y.v.kind,.int .i64 y.v.num,.float .f64 y.v.flt,.string ⟨y.v.str.toArray⟩,.slice q2 y.v.names.length r2,.slice s2 y.v.items.length u2,.slice n2 y.names.length m2,.slice k2 y.kids.length l2] 29)).block _ (lt_of_block hnx)).trans hnx;have hsz:(w.alloc (.cells #[.int .i64 x.kind,.string ⟨x.str.toArray⟩,.int .i64 x.v.kind,.int .i64 x.v.num,.float .f64 x.v.flt,.string ⟨x.v.str.toArray⟩,.slice q1 x.v.names.length r1,.slice s1 x.v.items.length u1,.slice n1 x.names.length m1,.slice k1 x.kids.length l1] 29)).heap.size=w.heap.size+1:=by simp
 rw[hsz]at hny;have hx1:=h.keptA hB;have hy1:=h2.keptA hB;have hE1:=hEn.below hB;obtain⟨W1,hW⟩:∃ W1,W1=(w.alloc (.cells #[.int .i64 x.kind,.string ⟨x.str.toArray⟩,.int .i64 x.v.kind,.int .i64 x.v.num,.float .f64 x.v.flt,.string ⟨x.v.str.toArray⟩,.slice q1 x.v.names.length r1,.slice s1 x.v.items.length u1,.slice n1 x.names.length m1,.slice k1 x.kids.length l1] 29)).alloc (.cells #[.int .i64 y.kind,.string ⟨y.str.toArray⟩,.int .i64 y.v.kind,.int .i64 y.v.num,.float .f64 y.v.flt,.string ⟨y.v.str.toArray⟩,.slice q2 y.v.names.length r2,.slice s2 y.v.items.length u2,.slice n2 y.names.length m2,.slice k2 y.kids.length l2] 29):=⟨_,rfl⟩;rw[←hW]at hB hnx hny hx1 hy1 hE1;have HW:=zh hW.symm;have HUp:=zh (fun w' (hb:Below W1.heap.size W1 w')=>(show Below w.heap.size w w' from hB.trans (hb.mono hB.size)));have HAw:=zh (fun w' (hb:Below W1.heap.size W1 w')=>awake8_any w' (hE1.below hb));have HSx:=zh (fun w' (hb:Below W1.heap.size W1 w')=>rsmallE_any d x _ w' (hx1.keptA hb));have HSy:=zh (fun w' (hb:Below W1.heap.size W1 w')=>rsmallE_any d2 y _ w' (hy1.keptA hb));have HTx:=zh (fun w' (hb:Below W1.heap.size W1 w')=>pText_any d x _ w' (hE1.below hb) (hx1.keptA hb));have HTy:=zh (fun w' (hb:Below W1.heap.size W1 w')=>pText_any d2 y _ w' (hE1.below hb) (hy1.keptA hb));have HPa:=zh (fun s w' (hb:Below W1.heap.size W1 w')=>pParse_any s w' (hE1.below hb));have HX:=zh (fun w' (hb:Below W1.heap.size W1 w')=>hx1.keptA hb);have HY:=zh (fun w' (hb:Below W1.heap.size W1 w')=>hy1.keptA hb);have HS:Hid (∀ w',Below W1.heap.size W1 w'→w'.cell? ⟨w.heap.size,0,none⟩=some (.int .i64 x.kind)∧w'.cell? ⟨w.heap.size,1,none⟩=some (.string ⟨x.str.toArray⟩)∧w'.cell? ⟨w.heap.size,2,none⟩=some (.int .i64 x.v.kind)∧w'.cell? ⟨w.heap.size,3,none⟩=some (.int .i64 x.v.num)∧w'.cell? ⟨w.heap.size,4,none⟩=some (.float .f64 x.v.flt)∧w'.cell? ⟨w.heap.size,5,none⟩=some (.string ⟨x.v.str.toArray⟩)∧w'.cell? ⟨w.heap.size,6,none⟩=some (.slice q1 x.v.names.length r1)∧w'.cell? ⟨w.heap.size,7,none⟩=some (.slice s1 x.v.items.length u1)∧w'.cell? ⟨w.heap.size,8,none⟩=some (.slice n1 x.names.length m1)∧w'.cell? ⟨w.heap.size,9,none⟩=some (.slice k1 x.kids.length l1)∧w'.cell? ⟨w.heap.size+1,0,none⟩=some (.int .i64 y.kind)∧w'.cell? ⟨w.heap.size+1,1,none⟩=some (.string ⟨y.str.toArray⟩)∧w'.cell? ⟨w.heap.size+1,2,none⟩=some (.int .i64 y.v.kind)∧w'.cell? ⟨w.heap.size+1,3,none⟩=some (.int .i64 y.v.num)∧w'.cell? ⟨w.heap.size+1,4,none⟩=some (.float .f64 y.v.flt)∧w'.cell? ⟨w.heap.size+1,5,none⟩=some (.string ⟨y.v.str.toArray⟩)∧w'.cell? ⟨w.heap.size+1,6,none⟩=some (.slice q2 y.v.names.length r2)∧w'.cell? ⟨w.heap.size+1,7,none⟩=some (.slice s2 y.v.items.length u2)∧w'.cell? ⟨w.heap.size+1,8,none⟩=some (.slice n2 y.names.length m2)∧w'.cell? ⟨w.heap.size+1,9,none⟩=some (.slice k2 y.kids.length l2)):=zh (fun w' hb=>⟨by rw[zc ((hb.block _ (lt_of_block hnx)).trans hnx)];rfl,by rw[zc ((hb.block _ (lt_of_block hnx)).trans hnx)];rfl,by rw[zc ((hb.block _ (lt_of_block hnx)).trans hnx)];rfl,by rw[zc ((hb.block _ (lt_of_block hnx)).trans hnx)];rfl,by rw[zc ((hb.block _ (lt_of_block hnx)).trans hnx)];rfl,by rw[zc ((hb.block _ (lt_of_block hnx)).trans hnx)];rfl,by rw[zc ((hb.block _ (lt_of_block hnx)).trans hnx)];rfl,by rw[zc ((hb.block _ (lt_of_block hnx)).trans hnx)];rfl,by rw[zc ((hb.block _ (lt_of_block hnx)).trans hnx)];rfl,by rw[zc ((hb.block _ (lt_of_block hnx)).trans hnx)];rfl,by rw[zc ((hb.block _ (lt_of_block hny)).trans hny)];rfl,by rw[zc ((hb.block _ (lt_of_block hny)).trans hny)];rfl,by rw[zc ((hb.block _ (lt_of_block hny)).trans hny)];rfl,by rw[zc ((hb.block _ (lt_of_block hny)).trans hny)];rfl,by rw[zc ((hb.block _ (lt_of_block hny)).trans hny)];rfl,by rw[zc ((hb.block _ (lt_of_block hny)).trans hny)];rfl,by rw[zc ((hb.block _ (lt_of_block hny)).trans hny)];rfl,by rw[zc ((hb.block _ (lt_of_block hny)).trans hny)];rfl,by rw[zc ((hb.block _ (lt_of_block hny)).trans hny)];rfl,by rw[zc ((hb.block _ (lt_of_block hny)).trans hny)];rfl⟩);clear hW hnx hny h h2 hx1 hy1 hE1 hB hsz hEn;have hix:=zh hix;have hiy:=zh hiy;obtain⟨i,hi9,hki⟩:∃ i:Nat,i<10∧(IntKind.u64.wrap n).tmod 10=(i:Int):=by
  have h0:(0:Int)≤IntKind.u64.wrap n:=by rw[show IntKind.u64.wrap n=n % 18446744073709551616 by simp[IntKind.wrap,IntKind.bits,IntKind.signed]];exact Int.emod_nonneg _ (by decide)
  refine⟨((IntKind.u64.wrap n).tmod 10).toNat,?_,?_⟩
  ·have:=Int.tmod_lt_of_pos (IntKind.u64.wrap n) (show(0:Int)<10 by decide);omega
  ·have:=Int.tmod_nonneg 10 h0;omega
 cases hsx:smallE x
 ·rw[hsx]at HSx;clear hsx;go_in;go_upto_region 1 with (fail)
  rw[HW.out];go_upto_region 2 with (fail)
  obtain⟨a0,a1,a2,a3,a4,a5,a6,a7,a8,a9,b0,b1,b2,b3,b4,b5,b6,b7,b8,b9⟩:=HS.out _ (Below.refl W1.heap.size W1);go_wp2_with fail
  refine(HAw.out _ (Below.refl W1.heap.size W1)).mono ?_;rintro e w2 ⟨rfl,hc⟩;have hb2:=below_tr' (Below.refl W1.heap.size W1) hc;clear hc;clear a0 a1 a2 a3 a4 a5 a6 a7 a8 a9 b0 b1 b2 b3 b4 b5 b6 b7 b8 b9;obtain⟨a0,a1,a2,a3,a4,a5,a6,a7,a8,a9,b0,b1,b2,b3,b4,b5,b6,b7,b8,b9⟩:=HS.out _ hb2;go_wp2_with fail
  refine(HSx.out _ hb2).mono ?_;rintro e w3 ⟨rfl,hc⟩;have hb3:=below_tr' hb2 hc;clear hc;clear a0 a1 a2 a3 a4 a5 a6 a7 a8 a9 b0 b1 b2 b3 b4 b5 b6 b7 b8 b9;obtain⟨a0,a1,a2,a3,a4,a5,a6,a7,a8,a9,b0,b1,b2,b3,b4,b5,b6,b7,b8,b9⟩:=HS.out _ hb3;go_wp2_with fail
  refine(HAw.out _ hb3).mono ?_;rintro e w4 ⟨rfl,hc⟩;go_wp2_with fail
  go_ret;exact⟨ret_val rfl,HUp.out _ (below_tr' hb3 hc)⟩
 ·rw[hsx]at HSx;clear hsx;cases hsy:smallE y
  ·rw[hsy]at HSy;clear hsy;go_in;go_upto_region 1 with (fail)
   rw[HW.out];go_upto_region 2 with (fail)
   obtain⟨a0,a1,a2,a3,a4,a5,a6,a7,a8,a9,b0,b1,b2,b3,b4,b5,b6,b7,b8,b9⟩:=HS.out _ (Below.refl W1.heap.size W1);go_wp2_with fail
   refine(HAw.out _ (Below.refl W1.heap.size W1)).mono ?_;rintro e w2 ⟨rfl,hc⟩;have hb2:=below_tr' (Below.refl W1.heap.size W1) hc;clear hc;clear a0 a1 a2 a3 a4 a5 a6 a7 a8 a9 b0 b1 b2 b3 b4 b5 b6 b7 b8 b9;obtain⟨a0,a1,a2,a3,a4,a5,a6,a7,a8,a9,b0,b1,b2,b3,b4,b5,b6,b7,b8,b9⟩:=HS.out _ hb2;go_wp2_with fail
   refine(HSx.out _ hb2).mono ?_;rintro e w3 ⟨rfl,hc⟩;have hb3:=below_tr' hb2 hc;clear hc;clear a0 a1 a2 a3 a4 a5 a6 a7 a8 a9 b0 b1 b2 b3 b4 b5 b6 b7 b8 b9;obtain⟨a0,a1,a2,a3,a4,a5,a6,a7,a8,a9,b0,b1,b2,b3,b4,b5,b6,b7,b8,b9⟩:=HS.out _ hb3;go_wp2_with fail
   refine(HSy.out _ hb3).mono ?_;rintro e w4 ⟨rfl,hc⟩;have hb4:=below_tr' hb3 hc;clear hc;clear a0 a1 a2 a3 a4 a5 a6 a7 a8 a9 b0 b1 b2 b3 b4 b5 b6 b7 b8 b9;obtain⟨a0,a1,a2,a3,a4,a5,a6,a7,a8,a9,b0,b1,b2,b3,b4,b5,b6,b7,b8,b9⟩:=HS.out _ hb4;go_wp2_with fail
   refine(HAw.out _ hb4).mono ?_;rintro e w5 ⟨rfl,hc⟩;go_wp2_with fail
   go_ret;exact⟨ret_val rfl,HUp.out _ (below_tr' hb4 hc)⟩
  ·rw[hsy]at HSy;clear hsy;go_in;go_upto_region 1 with (fail)
   rw[HW.out];go_upto_region 2 with (fail)
   obtain⟨a0,a1,a2,a3,a4,a5,a6,a7,a8,a9,b0,b1,b2,b3,b4,b5,b6,b7,b8,b9⟩:=HS.out _ (Below.refl W1.heap.size W1);go_wp2_with fail
   refine(HAw.out _ (Below.refl W1.heap.size W1)).mono ?_;rintro e w2 ⟨rfl,hc⟩;have hb2:=below_tr' (Below.refl W1.heap.size W1) hc;clear hc;clear a0 a1 a2 a3 a4 a5 a6 a7 a8 a9 b0 b1 b2 b3 b4 b5 b6 b7 b8 b9;obtain⟨a0,a1,a2,a3,a4,a5,a6,a7,a8,a9,b0,b1,b2,b3,b4,b5,b6,b7,b8,b9⟩:=HS.out _ hb2;go_wp2_with fail
   refine(HSx.out _ hb2).mono ?_;rintro e w3 ⟨rfl,hc⟩;have hb3:=below_tr' hb2 hc;clear hc;clear a0 a1 a2 a3 a4 a5 a6 a7 a8 a9 b0 b1 b2 b3 b4 b5 b6 b7 b8 b9;obtain⟨a0,a1,a2,a3,a4,a5,a6,a7,a8,a9,b0,b1,b2,b3,b4,b5,b6,b7,b8,b9⟩:=HS.out _ hb3;go_wp2_with fail
   refine(HSy.out _ hb3).mono ?_;rintro e w4 ⟨rfl,hc⟩;have hb4:=below_tr' hb3 hc;clear hc;clear a0 a1 a2 a3 a4 a5 a6 a7 a8 a9 b0 b1 b2 b3 b4 b5 b6 b7 b8 b9;obtain⟨a0,a1,a2,a3,a4,a5,a6,a7,a8,a9,b0,b1,b2,b3,b4,b5,b6,b7,b8,b9⟩:=HS.out _ hb4;go_upto_region 5 with (fail)
   have hA:Below w4.heap.size w4 ((w4.alloc (.cells #[.int .i64 x.kind,.string ⟨x.str.toArray⟩,.int .i64 x.v.kind,.int .i64 x.v.num,.float .f64 x.v.flt,.string ⟨x.v.str.toArray⟩,.slice q1 x.v.names.length r1,.slice s1 x.v.items.length u1,.slice n1 x.names.length m1,.slice k1 x.kids.length l1,.int .i64 y.kind,.string ⟨y.str.toArray⟩,.int .i64 y.v.kind,.int .i64 y.v.num,.float .f64 y.v.flt,.string ⟨y.v.str.toArray⟩,.slice q2 y.v.names.length r2,.slice s2 y.v.items.length u2,.slice n2 y.names.length m2,.slice k2 y.kids.length l2] 29)).alloc (.cells #[.int .i64 (5+(i:Int)),.string ⟨#[]⟩,.int .i64 0,.int .i64 0,.float .f64 0,.string ⟨#[]⟩,.slice none 0 0,.slice none 0 0,.slice none 0 0,.slice (some ⟨w4.heap.size,0,none⟩) 2 2] 29)):=((Below.refl _ _).alloc (Nat.le_refl _) _).alloc (by simp) _;have hng:=heap_alloc_new w4 (.cells #[.int .i64 x.kind,.string ⟨x.str.toArray⟩,.int .i64 x.v.kind,.int .i64 x.v.num,.float .f64 x.v.flt,.string ⟨x.v.str.toArray⟩,.slice q1 x.v.names.length r1,.slice s1 x.v.items.length u1,.slice n1 x.names.length m1,.slice k1 x.kids.length l1,.int .i64 y.kind,.string ⟨y.str.toArray⟩,.int .i64 y.v.kind,.int .i64 y.v.num,.float .f64 y.v.flt,.string ⟨y.v.str.toArray⟩,.slice q2 y.v.names.length r2,.slice s2 y.v.items.length u2,.slice n2 y.names.length m2,.slice k2 y.kids.length l2] 29);have hnb:=heap_alloc_new (w4.alloc (.cells #[.int .i64 x.kind,.string ⟨x.str.toArray⟩,.int .i64 x.v.kind,.int .i64 x.v.num,.float .f64 x.v.flt,.string ⟨x.v.str.toArray⟩,.slice q1 x.v.names.length r1,.slice s1 x.v.items.length u1,.slice n1 x.names.length m1,.slice k1 x.kids.length l1,.int .i64 y.kind,.string ⟨y.str.toArray⟩,.int .i64 y.v.kind,.int .i64 y.v.num,.float .f64 y.v.flt,.string ⟨y.v.str.toArray⟩,.slice q2 y.v.names.length r2,.slice s2 y.v.items.length u2,.slice n2 y.names.length m2,.slice k2 y.kids.length l2] 29)) (.cells #[.int .i64 (5+(i:Int)),.string ⟨#[]⟩,.int .i64 0,.int .i64 0,.float .f64 0,.string ⟨#[]⟩,.slice none 0 0,.slice none 0 0,.slice none 0 0,.slice (some ⟨w4.heap.size,0,none⟩) 2 2] 29);replace hng:=(((Below.refl (w4.alloc (.cells #[.int .i64 x.kind,.string ⟨x.str.toArray⟩,.int .i64 x.v.kind,.int .i64 x.v.num,.float .f64 x.v.flt,.string ⟨x.v.str.toArray⟩,.slice q1 x.v.names.length r1,.slice s1 x.v.items.length u1,.slice n1 x.names.length m1,.slice k1 x.kids.length l1,.int .i64 y.kind,.string ⟨y.str.toArray⟩,.int .i64 y.v.kind,.int .i64 y.v.num,.float .f64 y.v.flt,.string ⟨y.v.str.toArray⟩,.slice q2 y.v.names.length r2,.slice s2 y.v.items.length u2,.slice n2 y.names.length m2,.slice k2 y.kids.length l2] 29)).heap.size (w4.alloc (.cells #[.int .i64 x.kind,.string ⟨x.str.toArray⟩,.int .i64 x.v.kind,.int .i64 x.v.num,.float .f64 x.v.flt,.string ⟨x.v.str.toArray⟩,.slice q1 x.v.names.length r1,.slice s1 x.v.items.length u1,.slice n1 x.names.length m1,.slice k1 x.kids.length l1,.int .i64 y.kind,.string ⟨y.str.toArray⟩,.int .i64 y.v.kind,.int .i64 y.v.num,.float .f64 y.v.flt,.string ⟨y.v.str.toArray⟩,.slice q2 y.v.names.length r2,.slice s2 y.v.items.length u2,.slice n2 y.names.length m2,.slice k2 y.kids.length l2] 29))).alloc (Nat.le_refl _) (.cells #[.int .i64 (5+(i:Int)),.string ⟨#[]⟩,.int .i64 0,.int .i64 0,.float .f64 0,.string ⟨#[]⟩,.slice none 0 0,.slice none 0 0,.slice none 0 0,.slice (some ⟨w4.heap.size,0,none⟩) 2 2] 29)).block _ (lt_of_block hng)).trans hng;have hsz:(w4.alloc (.cells #[.int .i64 x.kind,.string ⟨x.str.toArray⟩,.int .i64 x.v.kind,.int .i64 x.v.num,.float .f64 x.v.flt,.string ⟨x.v.str.toArray⟩,.slice q1 x.v.names.length r1,.slice s1 x.v.items.length u1,.slice n1 x.names.length m1,.slice k1 x.kids.length l1,.int .i64 y.kind,.string ⟨y.str.toArray⟩,.int .i64 y.v.kind,.int .i64 y.v.num,.float .f64 y.v.flt,.string ⟨y.v.str.toArray⟩,.slice q2 y.v.names.length r2,.slice s2 y.v.items.length u2,.slice n2 y.names.length m2,.slice k2 y.kids.length l2] 29)).heap.size=w4.heap.size+1:=by simp
   rw[hsz]at hnb;generalize (w4.alloc (.cells #[.int .i64 x.kind,.string ⟨x.str.toArray⟩,.int .i64 x.v.kind,.int .i64 x.v.num,.float .f64 x.v.flt,.string ⟨x.v.str.toArray⟩,.slice q1 x.v.names.length r1,.slice s1 x.v.items.length u1,.slice n1 x.names.length m1,.slice k1 x.kids.length l1,.int .i64 y.kind,.string ⟨y.str.toArray⟩,.int .i64 y.v.kind,.int .i64 y.v.num,.float .f64 y.v.flt,.string ⟨y.v.str.toArray⟩,.slice q2 y.v.names.length r2,.slice s2 y.v.items.length u2,.slice n2 y.names.length m2,.slice k2 y.kids.length l2] 29)).alloc (.cells #[.int .i64 (5+(i:Int)),.string ⟨#[]⟩,.int .i64 0,.int .i64 0,.float .f64 0,.string ⟨#[]⟩,.slice none 0 0,.slice none 0 0,.slice none 0 0,.slice (some ⟨w4.heap.size,0,none⟩) 2 2] 29)=W5 at *;have hb5:=below_tr' hb4 hA;have hbo:ExAt' W5 (d+d2+1) (twoE (5+(i:Int)) x y) #[.int .i64 (5+(i:Int)),.string ⟨#[]⟩,.int .i64 0,.int .i64 0,.float .f64 0,.string ⟨#[]⟩,.slice none 0 0,.slice none 0 0,.slice none 0 0,.slice (some ⟨w4.heap.size,0,none⟩) 2 2]:=ExIn.two (5+(i:Int)) (by omega) (HX.out _ hb5) (HY.out _ hb5) trivial hng;clear hA hng hsz hb4;generalize w4.heap.size=G at *;have HBo:=zh (fun w' (hb:Below W5.heap.size W5 w')=>(show ExAt' w' (d+d2+1) (twoE (5+(i:Int)) x y) _ from hbo.keptA hb));have HRt:=zh (rRight8_any _ _ _ W5 hbo);have hnl:=lt_of_block hnb;have HCb:Hid (∀ w',Below W5.heap.size W5 w'→w'.cell? ⟨G+1,0,none⟩=some (.int .i64 (5+(i:Int)))∧w'.cell? ⟨G+1,1,none⟩=some (.string ⟨#[]⟩)∧w'.cell? ⟨G+1,2,none⟩=some (.int .i64 0)∧w'.cell? ⟨G+1,3,none⟩=some (.int .i64 0)∧w'.cell? ⟨G+1,4,none⟩=some (.float .f64 0)∧w'.cell? ⟨G+1,5,none⟩=some (.string ⟨#[]⟩)∧w'.cell? ⟨G+1,6,none⟩=some (.slice none 0 0)∧w'.cell? ⟨G+1,7,none⟩=some (.slice none 0 0)∧w'.cell? ⟨G+1,8,none⟩=some (.slice none 0 0)∧w'.cell? ⟨G+1,9,none⟩=some (.slice (some ⟨G,0,none⟩) 2 2)):=zh (fun w' hb=>⟨by rw[zc ((hb.block _ hnl).trans hnb)];rfl,by rw[zc ((hb.block _ hnl).trans hnb)];rfl,by rw[zc ((hb.block _ hnl).trans hnb)];rfl,by rw[zc ((hb.block _ hnl).trans hnb)];rfl,by rw[zc ((hb.block _ hnl).trans hnb)];rfl,by rw[zc ((hb.block _ hnl).trans hnb)];rfl,by rw[zc ((hb.block _ hnl).trans hnb)];rfl,by rw[zc ((hb.block _ hnl).trans hnb)];rfl,by rw[zc ((hb.block _ hnl).trans hnb)];rfl,by rw[zc ((hb.block _ hnl).trans hnb)];rfl⟩);clear hbo hnb hnl;clear a0 a1 a2 a3 a4 a5 a6 a7 a8 a9 b0 b1 b2 b3 b4 b5 b6 b7 b8 b9;obtain⟨a0,a1,a2,a3,a4,a5,a6,a7,a8,a9,b0,b1,b2,b3,b4,b5,b6,b7,b8,b9⟩:=HS.out _ hb5;obtain⟨c0,c1,c2,c3,c4,c5,c6,c7,c8,c9⟩:=HCb.out _ (Below.refl W5.heap.size W5);go_wp2_with fail
   cases hr:rightEx (twoE (5+(i:Int)) x y)
   ·rw[hr]at HRt;clear hr;refine(HRt.out).mono ?_;rintro e w6 ⟨rfl,hc⟩;have hb6:=below_tr' hb5 hc;go_wp2_with fail
    go_ret;exact⟨ret_val rfl,HUp.out _ hb6⟩
   ·rw[hr]at HRt;obtain⟨hrx,hry⟩:=two_right hr;have hTx:textR x=.tuple #[.string ⟨(textE x).toArray⟩,.int .i64 0]:=by unfold textR;rw[if_pos hrx]
    have hTy:textR y=.tuple #[.string ⟨(textE y).toArray⟩,.int .i64 0]:=by unfold textR;rw[if_pos hry]
    rw[hTx]at HTx;rw[hTy]at HTy;have hpp:=fun hl=>pair_plain (x:=x) (y:=y) (k:=5+(i:Int)) (by omega) (by omega) hrx hry hr hix.out hiy.out hl
    have hi5:((5:Int)+(i:Int) - 5).toNat=i:=by omega
    rw[hi5]at hpp;have HPP:=zh hpp;have hsl:=text_short hrx hix.out;have hsl2:=text_short hry hiy.out;clear hr hrx hry hTx hTy hpp hi5;generalize textE x=tx at *;generalize textE y=ty at *;refine(HRt.out).mono ?_;rintro e w6 ⟨rfl,hc⟩;have hb6:=below_tr' hb5 hc;have he6:=below_tr' (Below.refl W5.heap.size W5) hc;clear hc;clear a0 a1 a2 a3 a4 a5 a6 a7 a8 a9 b0 b1 b2 b3 b4 b5 b6 b7 b8 b9;clear c0 c1 c2 c3 c4 c5 c6 c7 c8 c9;obtain⟨a0,a1,a2,a3,a4,a5,a6,a7,a8,a9,b0,b1,b2,b3,b4,b5,b6,b7,b8,b9⟩:=HS.out _ hb6;obtain⟨c0,c1,c2,c3,c4,c5,c6,c7,c8,c9⟩:=HCb.out _ he6;go_wp2_with fail
    refine(HTx.out _ hb6).mono ?_;rintro e w7 ⟨rfl,hc⟩;have hb7:=below_tr' hb6 hc;have he7:=below_tr' he6 hc;clear hc;clear a0 a1 a2 a3 a4 a5 a6 a7 a8 a9 b0 b1 b2 b3 b4 b5 b6 b7 b8 b9;clear c0 c1 c2 c3 c4 c5 c6 c7 c8 c9;obtain⟨a0,a1,a2,a3,a4,a5,a6,a7,a8,a9,b0,b1,b2,b3,b4,b5,b6,b7,b8,b9⟩:=HS.out _ hb7;go_wp2_with fail
    refine(HTy.out _ hb7).mono ?_;rintro e w8 ⟨rfl,hc⟩;have hb8:=below_tr' hb7 hc;have he8:=below_tr' he7 hc;clear hc;clear a0 a1 a2 a3 a4 a5 a6 a7 a8 a9 b0 b1 b2 b3 b4 b5 b6 b7 b8 b9;have hzx:(⟨tx.toArray⟩:ByteArray).size=tx.length:=by simp[ByteArray.size]
    have hzy:(⟨ty.toArray⟩:ByteArray).size=ty.length:=by simp[ByteArray.size]
    by_cases hl:1900<tx.length+ty.length
    ·have t1:decide ((1900:Int)<(tx.length:Int)+(ty.length:Int))=true:=by simp;omega
     have t1':1900<tx.length+ty.length:=hl;generalize (⟨tx.toArray⟩:ByteArray)=T1 at *;generalize (⟨ty.toArray⟩:ByteArray)=T2 at *;go_wp2_with fail
     go_ret;exact⟨ret_val rfl,HUp.out _ hb8⟩
    ·have t1:decide ((1900:Int)<(tx.length:Int)+(ty.length:Int))=false:=by simp;omega
     have t1':¬ 1900<tx.length+ty.length:=hl;have hwi:IntKind.i64.wrap ((5:Int)+(i:Int) - 5)=(i:Int):=by
      rw[show(5:Int)+(i:Int) - 5=(i:Int) by omega];exact Lib.wrap_i64_small i (by omega)
     obtain⟨sg,hsg⟩:∃ sg,sg=signsB.getD i []:=⟨_,rfl⟩;rw[←hsg]at HPP;have hlg:sg.length≤2:=by rw[hsg];exact(word_len i).2
     have hix2:∀ w,(Instr.index 44 (.agg #[.string ⟨#[43]⟩,.string ⟨#[45]⟩,.string ⟨#[42]⟩,.string ⟨#[47]⟩,.string ⟨#[37]⟩,.string ⟨#[61,61]⟩,.string ⟨#[60]⟩,.string ⟨#[60,61]⟩,.string ⟨#[38,38]⟩,.string ⟨#[124,124]⟩]) (.int .i64 (i:Int))).run Tryz.prog w=.ok (.string ⟨sg.toArray⟩) w:=fun w=>by
      rw[hsg];clear hsg hlg;rcases(by omega:i=0∨i=1∨i=2∨i=3∨i=4∨i=5∨i=6∨i=7∨i=8∨i=9)with rfl|rfl|rfl|rfl|rfl|rfl|rfl|rfl|rfl|rfl<;>kernel_rfl
     clear hsg;obtain⟨C1,hC1⟩:∃ C:ByteArray,C=⟨([40]++tx).toArray⟩:=⟨_,rfl⟩;have hs1:∀ w,(Op.stringOp .add ⟨([40]).toArray⟩ ⟨(tx).toArray⟩).run Tryz.prog w=.ok (.string C1) w:=fun w=>by
      rw[hC1,run_string_add_sum w _ _ (by simp[ByteArray.size];omega),ba_cat]
     obtain⟨C2,hC2⟩:∃ C:ByteArray,C=⟨(([40]++tx)++[41]).toArray⟩:=⟨_,rfl⟩;have hs2:∀ w,(Op.stringOp .add C1 ⟨([41]).toArray⟩).run Tryz.prog w=.ok (.string C2) w:=fun w=>by
      rw[hC1];rw[hC2,run_string_add_sum w _ _ (by simp[ByteArray.size];omega),ba_cat]
     obtain⟨C3,hC3⟩:∃ C:ByteArray,C=⟨((([40]++tx)++[41])++sg).toArray⟩:=⟨_,rfl⟩;have hs3:∀ w,(Op.stringOp .add C2 ⟨(sg).toArray⟩).run Tryz.prog w=.ok (.string C3) w:=fun w=>by
      rw[hC2];rw[hC3,run_string_add_sum w _ _ (by simp[ByteArray.size];omega),ba_cat]
     obtain⟨C4,hC4⟩:∃ C:ByteArray,C=⟨(((([40]++tx)++[41])++sg)++[40]).toArray⟩:=⟨_,rfl⟩;have hs4:∀ w,(Op.stringOp .add C3 ⟨([40]).toArray⟩).run Tryz.prog w=.ok (.string C4) w:=fun w=>by
      rw[hC3];rw[hC4,run_string_add_sum w _ _ (by simp[ByteArray.size];omega),ba_cat]
     obtain⟨C5,hC5⟩:∃ C:ByteArray,C=⟨((((([40]++tx)++[41])++sg)++[40])++ty).toArray⟩:=⟨_,rfl⟩;have hs5:∀ w,(Op.stringOp .add C4 ⟨(ty).toArray⟩).run Tryz.prog w=.ok (.string C5) w:=fun w=>by
      rw[hC4];rw[hC5,run_string_add_sum w _ _ (by simp[ByteArray.size];omega),ba_cat]
     obtain⟨C6,hC6⟩:∃ C:ByteArray,C=⟨(((((([40]++tx)++[41])++sg)++[40])++ty)++[41]).toArray⟩:=⟨_,rfl⟩;have hs6:∀ w,(Op.stringOp .add C5 ⟨([41]).toArray⟩).run Tryz.prog w=.ok (.string C6) w:=fun w=>by
      rw[hC5];rw[hC6,run_string_add_sum w _ _ (by simp[ByteArray.size];omega),ba_cat]
     have HZ:=zh (show C6.data.toList=40::(tx++41::(sg++40::(ty++[41]))) by rw[hC6];simp);clear hC1 hC2 hC3 hC4 hC5 hC6;generalize (⟨sg.toArray⟩:ByteArray)=T0 at *;generalize (⟨tx.toArray⟩:ByteArray)=T1 at *;generalize (⟨ty.toArray⟩:ByteArray)=T2 at *;go_wp2_with fail
     refine(HPa.out _ _ hb8).mono ?_;rintro e w9 ⟨d',cs',rfl,hz,hc⟩;have hb9:=below_tr' hb8 hc;have he9:=below_tr' he8 hc;clear hc;rw[HZ.out,HPP.out (by omega)]at hz ⊢
     obtain⟨q3,r3,s3,u3,n3,m3,k3,l3,rfl⟩:=hz.form4;obtain⟨z,hzz⟩:∃ z,z=canE (twoE (5+(i:Int)) x y):=⟨_,rfl⟩;rw[←hzz]at hz ⊢
     have Hzz:=zh hzz;clear hzz;go_upto_region 12 with (fail)
     have hn9:=heap_alloc_new w9 (.cells #[.int .i64 z.kind,.string ⟨z.str.toArray⟩,.int .i64 z.v.kind,.int .i64 z.v.num,.float .f64 z.v.flt,.string ⟨z.v.str.toArray⟩,.slice q3 z.v.names.length r3,.slice s3 z.v.items.length u3,.slice n3 z.names.length m3,.slice k3 z.kids.length l3] 29);have hA:Below w9.heap.size w9 (w9.alloc (.cells #[.int .i64 z.kind,.string ⟨z.str.toArray⟩,.int .i64 z.v.kind,.int .i64 z.v.num,.float .f64 z.v.flt,.string ⟨z.v.str.toArray⟩,.slice q3 z.v.names.length r3,.slice s3 z.v.items.length u3,.slice n3 z.names.length m3,.slice k3 z.kids.length l3] 29)):=(Below.refl _ _).alloc (Nat.le_refl _) _;generalize w9.alloc (.cells #[.int .i64 z.kind,.string ⟨z.str.toArray⟩,.int .i64 z.v.kind,.int .i64 z.v.num,.float .f64 z.v.flt,.string ⟨z.v.str.toArray⟩,.slice q3 z.v.names.length r3,.slice s3 z.v.items.length u3,.slice n3 z.names.length m3,.slice k3 z.kids.length l3] 29)=Wa at *;have hba:=below_tr' hb9 hA;have hea:=below_tr' he9 hA;have hza:=hz.at'.keptA hA;clear hz hA;obtain⟨c0,c1,c2,c3,c4,c5,c6,c7,c8,c9⟩:=HCb.out _ hea;obtain⟨b0,b1,b2,b3,b4,b5,b6,b7,b8,b9⟩:=cells10 hn9;clear hn9;have HSm:=zh (psame_any _ _ z (twoE (5+(i:Int)) x y) _ _ Wa hza (HBo.out _ hea) (by rw[Hzz.out,canE_canE]));go_wp2_with fail
     refine(HSm.out).mono ?_;rintro e w10 ⟨rfl,hc⟩;go_wp2_with fail
     go_ret;exact⟨ret_val rfl,HUp.out _ (below_tr' hba hc)⟩
end
end Go.Proofs.YtaaaaggmhjhkkaaGreatDoor
