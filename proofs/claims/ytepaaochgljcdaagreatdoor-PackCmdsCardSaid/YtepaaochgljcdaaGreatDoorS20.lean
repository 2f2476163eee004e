/-
  Ab, Ac, Ar, Rw in one text.
-/
import Derived.Test.YtepaaochgljcdaaGreatDoorS19
import Derived.Test.YtepaaochgljcdaaGreatDoorCl
set_option maxRecDepth 100000
set_option maxHeartbeats 4000000
namespace Go.Proofs.YtepaaochgljcdaaGreatDoor
section
open Go.RowKit
/-- an Out in its block: bytes so far, at most so many, or Bad -/
def OutAt (b k:Nat) (o:Option (List UInt8)) (w:World):Prop :=
 ∃ (s:ByteArray) (bad:Bool),w.heap[b]?=some (.cells #[.string s,.bool bad] 62 (0,0))∧s.size≤k∧(∀ l,o=some l→bad=false∧l=s.data.toList)∧(o=none→bad=true)
theorem OutAt.below {b k:Nat} {o:Option (List UInt8)} {w w':World} (h:OutAt b k o w) (hb:Below w.heap.size w w'):OutAt b k o w':=by
 obtain⟨s,bad,h1,h2⟩:=h;exact⟨s,bad,(hb.block _ (lt_of_block h1)).trans h1,h2⟩
theorem OutAt.more {b k m:Nat} {o:Option (List UInt8)} {w:World} (h:OutAt b k o w) (hm:k≤m):OutAt b m o w:=by
 obtain⟨s,bad,h1,h2,h3⟩:=h;exact⟨s,bad,h1,by omega,h3⟩
theorem OutAt.lt {b k:Nat} {o:Option (List UInt8)} {w:World} (h:OutAt b k o w):b<w.heap.size:=by
 obtain⟨s,bad,h1,_⟩:=h;exact lt_of_block h1
theorem out_bad {w:World} {b k:Nat} {s:ByteArray} {bad:Bool} (h:w.heap[b]?=some (.cells #[.string s,.bool bad] 62 (0,0))) (hs:s.size≤k):OutAt b k none (w.setCell ⟨b,1,none⟩ (.bool true)) :=
 ⟨s,true,heap_setN h 1 _,hs,(fun _ h=>nomatch h),fun _=>rfl⟩
theorem out_put {w:World} {b k:Nat} {s t:ByteArray} {bad:Bool} {o:Option (List UInt8)} {q:List UInt8} (h:w.heap[b]?=some (.cells #[.string s,.bool bad] 62 (0,0))) (hs:(s++t).size≤k) (h1:∀ l,o=some l→bad=false∧l=s.data.toList) (h2:o=none→bad=true) (hq:q=t.data.toList) :
  OutAt b k (catO o (some q)) (w.setCell ⟨b,0,none⟩ (.string (s++t))) :=
 ⟨s++t,bad,heap_setN h 0 _,hs,fun l hl=>by
  cases o with
  | none=>cases hl
  | some x =>
   obtain⟨hb,hx⟩:=h1 x rfl;have:x++q=l:=by simpa [catO,preB] using hl
   exact⟨hb,by rw[←this,hx,hq,cat_list]⟩,fun hn=>by
  cases o with
  | none=>exact h2 rfl
  | some x=>cases hn⟩
theorem cat_size (a b:ByteArray):(a++b).size=a.size+b.size:=by
 have h:∀ x:ByteArray,x.size=x.data.toList.length:=fun x=>by simp
 rw[h,h a,h b,cat_list,List.length_append]
theorem numsE_step {l:List Int} {i:Nat} (h:i<l.length):numsE (l.drop i)=if inN (l.getD i 0) then preB (uintS (l.getD i 0).toNat) (numsE (l.drop (i+1))) else none:=by
 rw[numsE_drop h];congr 1
theorem onum1_any (x:Int) (b k:Nat) (o:Option (List UInt8)) (hk:k≤1000000000000) (w:World) (hb:OutAt b k o w) :
  Calls Tryz.prog 19 #[.pointer (some ⟨b,0,none⟩),.int .i64 x] w fun e w'=>e=.returned (.tuple #[])∧OutAt b (k+10) (catO o (numsE [x])) w'∧Fr [b] w w':=by
 have HU:=zh (fun n h w=>rUint_any n h w);obtain⟨s,bad,hgb,hs,hq1,hq2⟩:=hb;have c0:w.cell? ⟨b,0,none⟩=some (.string s):=by rw[zc hgb];rfl
 have c1:w.cell? ⟨b,1,none⟩=some (.bool bad):=by rw[zc hgb];rfl
 have z0:w.frozen? ⟨b,0,none⟩=false:=Lib.frozen_of_heap hgb 0;have z1:w.frozen? ⟨b,1,none⟩=false:=Lib.frozen_of_heap hgb 1;have HGB:=zh hgb;have hD:numsE [x]=if inN x then preB (uintS x.toNat) (some []) else none:=numsE_step (l:=[x]) (i:=0) (by simp)
 have HQ1:=zh hq1;have HQ2:=zh hq2;clear hq1 hq2;by_cases hx1:x<0
 ·have t1:decide (x<0)=true:=decide_eq_true hx1;have hin:inN x=false:=by unfold inN;rw[decide_eq_false (by omega)];rfl
  rw[hin,if_neg (by decide)]at hD;have HD:=zh hD;clear hD hin hx1 hgb;go_in;go_wp2_with fail
  refine bodyPost_ret (results_none rfl _ _ _) rfl ?_;exact⟨rfl,by rw[HD.out,catO_nr];exact out_bad HGB.out (by omega),(Fr.refl [b] w).setCell _ (by simp) _⟩
 ·have t1:decide (x<0)=false:=decide_eq_false hx1;by_cases hx2:10000<x
  ·have t2:decide (10000<x)=true:=decide_eq_true hx2;have hin:inN x=false:=by unfold inN;rw[decide_eq_true (by omega),decide_eq_false (by omega)];rfl
   rw[hin,if_neg (by decide)]at hD;have HD:=zh hD;clear hD hin hx1 hx2 hgb;go_in;go_wp2_with fail
   refine bodyPost_ret (results_none rfl _ _ _) rfl ?_;exact⟨rfl,by rw[HD.out,catO_nr];exact out_bad HGB.out (by omega),(Fr.refl [b] w).setCell _ (by simp) _⟩
  ·have t2:decide (10000<x)=false:=decide_eq_false hx2;obtain⟨m,rfl⟩:=Int.eq_ofNat_of_zero_le (show 0≤x by omega);have hin:inN (m:Int)=true:=by unfold inN;rw[decide_eq_true (by omega),decide_eq_true (by omega)];rfl
   rw[hin,if_pos rfl,Int.toNat_natCast]at hD;have hul:=uintS_len m;obtain⟨S2,hS2⟩:∃ s,s=(⟨(uintS m).toArray⟩:ByteArray):=⟨_,rfl⟩;have hz2:S2.size=(uintS m).length:=by rw[hS2];show(uintS m).toArray.size=_;simp
   have hno:¬ 9223372036854775807<s.size+S2.size:=by omega
   have hno2:s.size+S2.size≤k+10:=by omega
   have wk:IntKind.u64.wrap (m:Int)=(m:Int):=by rw[IntKind.wrap_u64];omega
   have HUU:=zh (fun w=>(show Calls Tryz.prog 50 #[.int .u64 (m:Int)] w (Gives (.string S2) w) from by rw[hS2];exact HU.out m (by omega) w));have HD:=zh hD;have HS2:=zh hS2;have HK:=zh (fun x (h:Below w.heap.size w x)=>(show x.cell? ⟨b,0,none⟩=some (.string s)∧x.frozen? ⟨b,0,none⟩=false from
    ⟨(h.cell (p:=⟨b,0,none⟩) (lt_of_block hgb)).trans c0,(h.frozen (p:=⟨b,0,none⟩) (lt_of_block hgb)).trans z0⟩))
   clear hD hin hx1 hx2 hS2 hz2 hul hgb;go_in;go_wp2_with fail
   go_region_law ((go_simp;go_at_call 50;(with_reducible refine(HUU.out _).mono ?_);rintro e u1 ⟨rfl,hb1⟩;obtain⟨k0,k1⟩:=HK.out _ (undrew hb1);dsimp only))
   all_goals
    replace hb1:=undrew hb1;have hgu:=(hb1.block _ (lt_of_block HGB.out)).trans HGB.out;have hFu:=(Fr.of_below (l:=[b]) hb1).setCell ⟨b,0,none⟩ (by simp) (.string (s++S2));have hOu:=out_put (k:=k+10) (q:=uintS m) hgu (by rw[cat_size];omega) HQ1.out HQ2.out (by rw[HS2.out]);clear hgu hb1 hno hno2;go_wp2_with fail
    go_end0;exact⟨rfl,by rw[HD.out];rw[show preB (uintS m) (some [])=some (uintS m) by simp[preB]];exact hOu,hFu⟩
theorem oval_any (d:Nat) (v:VT) (cs:Array Value) (b k:Nat) (o:Option (List UInt8)) (hk:k≤1000000000000) (w:World) (hb:OutAt b k o w) (hv:ValAt w d v cs) :
  Calls Tryz.prog 52 #[.pointer (some ⟨b,0,none⟩),.agg cs] w fun e w'=>e=.returned (.tuple #[])∧OutAt b (k+60000) (catO o (valsE [v])) w'∧Fr [b] w w':=by
 obtain⟨pp,pc,p,cap,rfl⟩:=hv.sixS;have hB:Below w.heap.size w (w.alloc (.cells #[.int .i64 v.kind,.int .i64 v.num,.float .f64 v.flt,.string ⟨v.str.toArray⟩,.slice pp v.names.length pc,.slice p v.items.length cap] 28)):=(Below.refl _ _).alloc (Nat.le_refl _) _;have hnA:(w.alloc (.cells #[.int .i64 v.kind,.int .i64 v.num,.float .f64 v.flt,.string ⟨v.str.toArray⟩,.slice pp v.names.length pc,.slice p v.items.length cap] 28)).heap[w.heap.size]?=some (.cells #[.int .i64 v.kind,.int .i64 v.num,.float .f64 v.flt,.string ⟨v.str.toArray⟩,.slice pp v.names.length pc,.slice p v.items.length cap] 28 (0,0)):=heap_alloc_new w _;have HR:=zh (rRight_any d v _ _ (hv.kept hB));have HBl:=zh (fun x (h:Below (w.alloc (.cells #[.int .i64 v.kind,.int .i64 v.num,.float .f64 v.flt,.string ⟨v.str.toArray⟩,.slice pp v.names.length pc,.slice p v.items.length cap] 28)).heap.size (w.alloc (.cells #[.int .i64 v.kind,.int .i64 v.num,.float .f64 v.flt,.string ⟨v.str.toArray⟩,.slice pp v.names.length pc,.slice p v.items.length cap] 28)) x)=>(h.block _ (lt_of_block hnA)).trans hnA);have hE:valsE [v]=if rightB v then preB (encV v) (valsE []) else none:=rfl
 have HV:=fun x (h:Below (w.alloc (.cells #[.int .i64 v.kind,.int .i64 v.num,.float .f64 v.flt,.string ⟨v.str.toArray⟩,.slice pp v.names.length pc,.slice p v.items.length cap] 28)).heap.size (w.alloc (.cells #[.int .i64 v.kind,.int .i64 v.num,.float .f64 v.flt,.string ⟨v.str.toArray⟩,.slice pp v.names.length pc,.slice p v.items.length cap] 28)) x) (hr:rightB v=true) =>
  (show(encV v).length≤60000∧Calls Tryz.prog 82 #[.agg #[.int .i64 v.kind,.int .i64 v.num,.float .f64 v.flt,.string ⟨v.str.toArray⟩,.slice pp v.names.length pc,.slice p v.items.length cap]] x (Gives (.string ⟨(encV v).toArray⟩) x) from
   ⟨rightB_len hr,rEnc_any d v _ 12 x (hv.kept (hB.trans (h.mono hB.size))) ((rightB_iff v).1 hr).2 (by have:=rightB_len hr;omega)⟩)
 have hO0:=hb.below hB;have HO:=zh (fun x (h:Below (w.alloc (.cells #[.int .i64 v.kind,.int .i64 v.num,.float .f64 v.flt,.string ⟨v.str.toArray⟩,.slice pp v.names.length pc,.slice p v.items.length cap] 28)).heap.size (w.alloc (.cells #[.int .i64 v.kind,.int .i64 v.num,.float .f64 v.flt,.string ⟨v.str.toArray⟩,.slice pp v.names.length pc,.slice p v.items.length cap] 28)) x)=>hO0.below h);have hbl:b<w.heap.size:=hb.lt;clear hv hb hnA hO0;generalize rightB v=rb at *;generalize encV v=q at *;generalize hVE:valsE [v]=ve at *;clear hVE;generalize (⟨v.str.toArray⟩:ByteArray)=S at *;generalize v.kind=K at *;generalize v.num=X at *;generalize v.flt=fa at *;generalize v.names.length=M at *;generalize v.items.length=N at *;cases rb
 ·have HE:=zh (show ve=none from hE);clear hE HV;go_in;go_wp2_with fail
  refine(HR.out).mono ?_;rintro e w2 ⟨rfl,hb2⟩;obtain⟨s,bad,hg,hs,h1,h2⟩:=HO.out _ hb2;have c0:w2.cell? ⟨b,0,none⟩=some (.string s):=by rw[zc hg];rfl
  have c1:w2.cell? ⟨b,1,none⟩=some (.bool bad):=by rw[zc hg];rfl
  have z0:w2.frozen? ⟨b,0,none⟩=false:=Lib.frozen_of_heap hg 0;have z1:w2.frozen? ⟨b,1,none⟩=false:=Lib.frozen_of_heap hg 1;have HG:=zh hg;clear hg h1 h2;go_wp2_with fail
  refine bodyPost_ret (results_none rfl _ _ _) rfl ?_;exact⟨rfl,by rw[HE.out,catO_nr];exact(out_bad HG.out hs).more (by omega),(Fr.of_below (hB.trans (hb2.mono hB.size))).setCell _ (by simp) _⟩
 ·have HE:=zh (show ve=some q from by rw[hE,if_pos rfl];show some (q++[])=_;rw[List.append_nil]);have hql:=(HV _ (Below.refl _ _) rfl).1;obtain⟨S2,hS2⟩:∃ s,s=(⟨q.toArray⟩:ByteArray):=⟨_,rfl⟩;have hz2:S2.size=q.length:=by rw[hS2];show q.toArray.size=_;simp
  have HC:=zh (fun x (h:Below (w.alloc (.cells #[.int .i64 K,.int .i64 X,.float .f64 fa,.string S,.slice pp M pc,.slice p N cap] 28)).heap.size (w.alloc (.cells #[.int .i64 K,.int .i64 X,.float .f64 fa,.string S,.slice pp M pc,.slice p N cap] 28)) x)=>(show Calls Tryz.prog 82 #[.agg #[.int .i64 K,.int .i64 X,.float .f64 fa,.string S,.slice pp M pc,.slice p N cap]] x (Gives (.string S2) x) from by rw[hS2];exact(HV x h rfl).2));have HS2:=zh hS2;clear hE HV hS2;generalize hgh:w.heap.size=H at *;have HH:=zh hgh;clear hgh;go_in;go_wp2_with fail
  rw[HH.out];refine(HR.out).mono ?_;rintro e w2 ⟨rfl,hb2⟩;have hgv:=HBl.out _ hb2;obtain⟨s,bad,hg,hs,h1,h2⟩:=HO.out _ hb2;have hno:¬ 9223372036854775807<s.size+S2.size:=by omega
  have hno2:s.size+S2.size≤k+60000:=by omega
  have c0:w2.cell? ⟨b,0,none⟩=some (.string s):=by rw[zc hg];rfl
  have c1:w2.cell? ⟨b,1,none⟩=some (.bool bad):=by rw[zc hg];rfl
  have z0:w2.frozen? ⟨b,0,none⟩=false:=Lib.frozen_of_heap hg 0;have z1:w2.frozen? ⟨b,1,none⟩=false:=Lib.frozen_of_heap hg 1;obtain⟨a0,a1,a2,a3,a4,a5⟩:=cells6 hgv;have HG:=zh hg;have HQ1:=zh h1;have HQ2:=zh h2;have HK:=zh (fun x (h:Below w2.heap.size w2 x)=>(show x.cell? ⟨b,0,none⟩=some (.string s)∧x.frozen? ⟨b,0,none⟩=false∧x.cell? ⟨H,0,none⟩=some (.int .i64 K)∧x.cell? ⟨H,1,none⟩=some (.int .i64 X)∧x.cell? ⟨H,2,none⟩=some (.float .f64 fa)∧x.cell? ⟨H,3,none⟩=some (.string S)∧x.cell? ⟨H,4,none⟩=some (.slice pp M pc)∧x.cell? ⟨H,5,none⟩=some (.slice p N cap) from
   ⟨(h.cell (p:=⟨b,0,none⟩) (lt_of_block hg)).trans c0,(h.frozen (p:=⟨b,0,none⟩) (lt_of_block hg)).trans z0,(h.cell (p:=⟨H,0,none⟩) (lt_of_block hgv)).trans a0,(h.cell (p:=⟨H,1,none⟩) (lt_of_block hgv)).trans a1,(h.cell (p:=⟨H,2,none⟩) (lt_of_block hgv)).trans a2,(h.cell (p:=⟨H,3,none⟩) (lt_of_block hgv)).trans a3,(h.cell (p:=⟨H,4,none⟩) (lt_of_block hgv)).trans a4,(h.cell (p:=⟨H,5,none⟩) (lt_of_block hgv)).trans a5⟩))
  have hb3:=hb2.trans ((Below.refl w2.heap.size w2).drew.mono hb2.size);have HCw:=zh (HC.out _ hb3);have HB2:=zh hb2;clear hg hgv h1 h2 hz2 hql hs hb2 hb3;go_wp2_with fail
  go_region_law ((go_simp;go_at_call 82;(with_reducible refine(HCw.out).mono ?_);rintro e u1 ⟨rfl,hb1⟩;obtain⟨k0,k1,k2,k3,k4,k5,k6,k7⟩:=HK.out _ (undrew hb1);dsimp only))
  all_goals
   replace hb1:=undrew hb1;have hgu:=(hb1.block _ (lt_of_block HG.out)).trans HG.out;have hOu:=out_put (k:=k+60000) (q:=q) hgu (by rw[cat_size];omega) HQ1.out HQ2.out (by rw[HS2.out]);have hFu:=(Fr.of_below (l:=[b]) (show Below w.heap.size w u1 by rw[HH.out];exact hB.trans ((below_tr' HB2.out hb1).mono (by have:=hB.size;rw[HH.out]at this;exact this)))).setCell ⟨b,0,none⟩ (by simp) (.string (s++S2));clear hgu hb1 hno hno2;go_wp2_with fail
   go_end0;exact⟨rfl,by rw[HE.out];exact hOu,hFu⟩
end
section
open Go.RowKit
def OutIs (s:ByteArray) (bad:Bool) (o:Option (List UInt8)):Prop:=(∀ l,o=some l→bad=false∧l=s.data.toList)∧(o=none→bad=true)
theorem out_put1 {w:World} {b k:Nat} {s:ByteArray} {bad:Bool} {o:Option (List UInt8)} {c:UInt8} (h:w.heap[b]?=some (.cells #[.string s,.bool bad] 62 (0,0))) (hs:s.size+1≤k) (h1:OutIs s bad o) :
  OutAt b k (catO o (some [c])) (w.setCell ⟨b,0,none⟩ (.string (s++⟨#[c]⟩))) :=
 out_put h (by rw[cat_size];exact hs) h1.1 h1.2 rfl
theorem rnone13_any (d:Nat) (v:VT) (cs:Array Value) (hk:v.kind=0) (w:World) (h:ValAt w d v cs):Calls Tryz.prog 51 #[.agg cs] w (Gives (.bool (bareV v false false false false)) w):=by
 obtain⟨pp,pc,p,cap,rfl⟩:=h.sixS;have hsf:∀ (a:Addr) (x:Nat) (m:Mode) (w:World),(store a (.float .f64 x) m).run Tryz.prog w=stored Tryz.prog w a (.float .f64 x) m:=fun a x m w=>run_store _ w a _ m rfl
 have HR:=zh (fun x (hx:Below w.heap.size w x)=>rRight8_x d v (.slice pp v.names.length pc) (.slice p v.items.length cap) hk x (h.kept hx));have hA:Below w.heap.size w (w.alloc (.cells #[.int .i64 v.kind,.int .i64 v.num,.float .f64 v.flt,.string ⟨v.str.toArray⟩,.slice pp v.names.length pc,.slice p v.items.length cap] 28)):=(Below.refl _ _).alloc (Nat.le_refl _) _;have hA1:=heap_alloc_new w (.cells #[.int .i64 v.kind,.int .i64 v.num,.float .f64 v.flt,.string ⟨v.str.toArray⟩,.slice pp v.names.length pc,.slice p v.items.length cap] 28);clear h hk;go_in;go_upto_region 1 with (fail)
 generalize w.alloc (.cells #[.int .i64 v.kind,.int .i64 v.num,.float .f64 v.flt,.string ⟨v.str.toArray⟩,.slice pp v.names.length pc,.slice p v.items.length cap] 28)=W1 at *;obtain⟨a0,a1,a2,a3,a4,a5⟩:=cells6 hA1;clear hA1;go_upto_region 2 with (fail)
 have hB:=hA.trans ((Below.refl W1.heap.size W1).alloc (Nat.le_refl _) (.cells #[.int .i64 2,.string ⟨#[120]⟩,.int .i64 v.kind,.int .i64 v.num,.float .f64 v.flt,.string ⟨v.str.toArray⟩,.slice pp v.names.length pc,.slice p v.items.length cap,.slice none 0 0,.slice none 0 0] 105) |>.mono hA.size);have hX:=heap_alloc_new W1 (.cells #[.int .i64 2,.string ⟨#[120]⟩,.int .i64 v.kind,.int .i64 v.num,.float .f64 v.flt,.string ⟨v.str.toArray⟩,.slice pp v.names.length pc,.slice p v.items.length cap,.slice none 0 0,.slice none 0 0] 105);generalize W1.alloc (.cells #[.int .i64 2,.string ⟨#[120]⟩,.int .i64 v.kind,.int .i64 v.num,.float .f64 v.flt,.string ⟨v.str.toArray⟩,.slice pp v.names.length pc,.slice p v.items.length cap,.slice none 0 0,.slice none 0 0] 105)=W2 at *;generalize W1.heap.size=H1 at *;obtain⟨b0,b1,b2,b3,b4,b5,b6,b7,b8,b9⟩:=cells10 hX;clear hX a0 a1 a2 a3 a4 a5;have HR2:=zh (HR.out _ hB);go_wp2_with fail
 refine(HR2.out).mono ?_;rintro e w3 ⟨rfl,hb3⟩;go_wp2_with fail
 go_ret;exact⟨rfl,hB.trans (hb3.mono hB.size)⟩
theorem osome_any (d:Nat) (v:VT) (cs:Array Value) (b k:Nat) (o:Option (List UInt8)) (hk:k≤900000000000) (u w:World) (hub:u.heap.size≤b) (huw:Below u.heap.size u w) (hb:OutAt b k o w) (hvu:ValAt u (d+1) v cs) :
  Calls Tryz.prog 20 #[.pointer (some ⟨b,0,none⟩),.agg cs] w fun e w'=>e=.returned (.tuple #[])∧OutAt b (k+60001) (catO o (someE v)) w'∧Fr [b] w w':=by
 have hv:=hvu.kept huw;obtain⟨pp,pc,p,cap,rfl⟩:=hv.sixS;have hB:Below w.heap.size w (w.alloc (.cells #[.int .i64 v.kind,.int .i64 v.num,.float .f64 v.flt,.string ⟨v.str.toArray⟩,.slice pp v.names.length pc,.slice p v.items.length cap] 28)):=(Below.refl _ _).alloc (Nat.le_refl _) _;have hnA:(w.alloc (.cells #[.int .i64 v.kind,.int .i64 v.num,.float .f64 v.flt,.string ⟨v.str.toArray⟩,.slice pp v.names.length pc,.slice p v.items.length cap] 28)).heap[w.heap.size]?=some (.cells #[.int .i64 v.kind,.int .i64 v.num,.float .f64 v.flt,.string ⟨v.str.toArray⟩,.slice pp v.names.length pc,.slice p v.items.length cap] 28 (0,0)):=heap_alloc_new w _;have hS:someE v=if v.kind=0 then(if bareV v false false false false then some [0] else none) else preB [1] (valsE [v]):=rfl
 have hO:=hb.below hB;have hbl:=hb.lt;have hneb:b≠w.heap.size:=by omega
 by_cases hk0:v.kind=0
 ·rw[if_pos hk0]at hS;have tk:(v.kind==0)=true:=by rw[hk0];rfl
  have HR:=zh (rnone13_any (d+1) v _ hk0 _ (hv.kept hB));obtain⟨s,bad,hg,hs,h1,h2⟩:=hO;have c0:(w.alloc (.cells #[.int .i64 v.kind,.int .i64 v.num,.float .f64 v.flt,.string ⟨v.str.toArray⟩,.slice pp v.names.length pc,.slice p v.items.length cap] 28)).cell? ⟨b,0,none⟩=some (.string s):=by rw[zc hg];rfl
  have c1:(w.alloc (.cells #[.int .i64 v.kind,.int .i64 v.num,.float .f64 v.flt,.string ⟨v.str.toArray⟩,.slice pp v.names.length pc,.slice p v.items.length cap] 28)).cell? ⟨b,1,none⟩=some (.bool bad):=by rw[zc hg];rfl
  have z0:(w.alloc (.cells #[.int .i64 v.kind,.int .i64 v.num,.float .f64 v.flt,.string ⟨v.str.toArray⟩,.slice pp v.names.length pc,.slice p v.items.length cap] 28)).frozen? ⟨b,0,none⟩=false:=Lib.frozen_of_heap hg 0;have z1:(w.alloc (.cells #[.int .i64 v.kind,.int .i64 v.num,.float .f64 v.flt,.string ⟨v.str.toArray⟩,.slice pp v.names.length pc,.slice p v.items.length cap] 28)).frozen? ⟨b,1,none⟩=false:=Lib.frozen_of_heap hg 1;clear hv hvu huw hb;generalize bareV v false false false false=bb at *;generalize hVE:someE v=ve at *;clear hVE hk0;generalize (⟨v.str.toArray⟩:ByteArray)=S at *;generalize v.kind=K at *;generalize v.num=X at *;generalize v.flt=fa at *;generalize v.names.length=M at *;generalize v.items.length=N at *;cases bad
  ·cases bb
   ·have HS:=zh (show ve=none from hS);have HG:=zh hg;have HB:=zh hB;clear hS hg h1 h2 hB;go_in;go_upto_region 1 with (fail)
    generalize w.alloc (.cells #[.int .i64 K,.int .i64 X,.float .f64 fa,.string S,.slice pp M pc,.slice p N cap] 28)=W1 at *;obtain⟨a0,a1,a2,a3,a4,a5⟩:=cells6 hnA;clear hnA;go_wp2_with fail
    refine(HR.out).mono ?_;rintro e w2 ⟨rfl,hb2⟩;have hg2:=(hb2.block _ (lt_of_block HG.out)).trans HG.out;clear c0 c1 z0 z1;have c0:w2.cell? ⟨b,0,none⟩=some (.string s):=by rw[zc hg2];rfl
    have c1:w2.cell? ⟨b,1,none⟩=some (.bool false):=by rw[zc hg2];rfl
    have z0:w2.frozen? ⟨b,0,none⟩=false:=Lib.frozen_of_heap hg2 0;have z1:w2.frozen? ⟨b,1,none⟩=false:=Lib.frozen_of_heap hg2 1;have hF:=((Fr.of_below (l:=[b]) (HB.out.trans (hb2.mono HB.out.size))).setCell ⟨b,1,none⟩ (by simp) (.bool true)).setCell ⟨b,0,none⟩ (by simp) (.string (s++⟨#[0]⟩));have hno:¬ 9223372036854775807<s.size+1:=by omega
    have hOe:=out_put1 (c:=0) (k:=k+60001) (o:=none) (heap_setN hg2 1 (.bool true)) (by omega) ⟨(fun _ h=>nomatch h),fun _=>rfl⟩;clear hg2;go_wp2_with fail
    refine bodyPost_ret (results_none rfl _ _ _) rfl ?_;exact⟨rfl,by rw[HS.out,catO_nr];exact hOe,hF⟩
   ·have HS:=zh (show ve=some [0] from hS);have HG:=zh hg;have HB:=zh hB;have H1:OutIs s false o:=⟨h1,h2⟩;clear hS hg h1 h2 hB;go_in;go_upto_region 1 with (fail)
    generalize w.alloc (.cells #[.int .i64 K,.int .i64 X,.float .f64 fa,.string S,.slice pp M pc,.slice p N cap] 28)=W1 at *;obtain⟨a0,a1,a2,a3,a4,a5⟩:=cells6 hnA;clear hnA;go_wp2_with fail
    refine(HR.out).mono ?_;rintro e w2 ⟨rfl,hb2⟩;have hg2:=(hb2.block _ (lt_of_block HG.out)).trans HG.out;clear c0 c1 z0 z1;have c0:w2.cell? ⟨b,0,none⟩=some (.string s):=by rw[zc hg2];rfl
    have c1:w2.cell? ⟨b,1,none⟩=some (.bool false):=by rw[zc hg2];rfl
    have z0:w2.frozen? ⟨b,0,none⟩=false:=Lib.frozen_of_heap hg2 0;have z1:w2.frozen? ⟨b,1,none⟩=false:=Lib.frozen_of_heap hg2 1;have hF:=((Fr.of_below (l:=[b]) (HB.out.trans (hb2.mono HB.out.size))).setCell ⟨b,1,none⟩ (by simp) (.bool false)).setCell ⟨b,0,none⟩ (by simp) (.string (s++⟨#[0]⟩));have hno:¬ 9223372036854775807<s.size+1:=by omega
    have hOe:=out_put1 (c:=0) (k:=k+60001) (heap_setN hg2 1 (.bool false)) (by omega) H1;clear hg2;go_wp2_with fail
    refine bodyPost_ret (results_none rfl _ _ _) rfl ?_;exact⟨rfl,by rw[HS.out];exact hOe,hF⟩
  ·have ho:o=none:=by
    cases o with
    | none=>rfl
    | some l=>have:=(h1 l rfl).1;cases this
   subst ho;have HG:=zh hg;have HB:=zh hB;have hF:=((Fr.of_below (l:=[b]) hB).setCell ⟨b,1,none⟩ (by simp) (.bool true)).setCell ⟨b,0,none⟩ (by simp) (.string (s++⟨#[0]⟩));have hno:¬ 9223372036854775807<s.size+1:=by omega
   have hOe:=out_put1 (c:=0) (k:=k+60001) (o:=none) (heap_setN hg 1 (.bool true)) (by omega) ⟨(fun _ h=>nomatch h),fun _=>rfl⟩;clear hS hg h1 h2 hB HR;go_in;go_upto_region 1 with (fail)
   generalize w.alloc (.cells #[.int .i64 K,.int .i64 X,.float .f64 fa,.string S,.slice pp M pc,.slice p N cap] 28)=W1 at *;obtain⟨a0,a1,a2,a3,a4,a5⟩:=cells6 hnA;clear hnA;go_wp2_with fail
   refine bodyPost_ret (results_none rfl _ _ _) rfl ?_;exact⟨rfl,hOe,hF⟩
 ·rw[if_neg hk0]at hS;have tk:(v.kind==0)=false:=beq_eq_false_iff_ne.2 hk0;obtain⟨s,bad,hg,hs,h1,h2⟩:=hO;have c0:(w.alloc (.cells #[.int .i64 v.kind,.int .i64 v.num,.float .f64 v.flt,.string ⟨v.str.toArray⟩,.slice pp v.names.length pc,.slice p v.items.length cap] 28)).cell? ⟨b,0,none⟩=some (.string s):=by rw[zc hg];rfl
  have c1:(w.alloc (.cells #[.int .i64 v.kind,.int .i64 v.num,.float .f64 v.flt,.string ⟨v.str.toArray⟩,.slice pp v.names.length pc,.slice p v.items.length cap] 28)).cell? ⟨b,1,none⟩=some (.bool bad):=by rw[zc hg];rfl
  have z0:(w.alloc (.cells #[.int .i64 v.kind,.int .i64 v.num,.float .f64 v.flt,.string ⟨v.str.toArray⟩,.slice pp v.names.length pc,.slice p v.items.length cap] 28)).frozen? ⟨b,0,none⟩=false:=Lib.frozen_of_heap hg 0;have z1:(w.alloc (.cells #[.int .i64 v.kind,.int .i64 v.num,.float .f64 v.flt,.string ⟨v.str.toArray⟩,.slice pp v.names.length pc,.slice p v.items.length cap] 28)).frozen? ⟨b,1,none⟩=false:=Lib.frozen_of_heap hg 1;have hno:¬ 9223372036854775807<s.size+1:=by omega
  have hO1:=out_put1 (c:=1) (k:=k+1) hg (by omega) ⟨h1,h2⟩;have hf1:=(Fr.refl [b] (w.alloc (.cells #[.int .i64 v.kind,.int .i64 v.num,.float .f64 v.flt,.string ⟨v.str.toArray⟩,.slice pp v.names.length pc,.slice p v.items.length cap] 28))).setCell ⟨b,0,none⟩ (by simp) (.string (s++⟨#[1]⟩));have hnB:=hf1.at hnA (by simpa using Ne.symm hneb);have hfb:=(Fr.of_below (l:=[b]) hB).trans hf1;have hvk:ValAt ((w.alloc (.cells #[.int .i64 v.kind,.int .i64 v.num,.float .f64 v.flt,.string ⟨v.str.toArray⟩,.slice pp v.names.length pc,.slice p v.items.length cap] 28)).setCell ⟨b,0,none⟩ (.string (s++⟨#[1]⟩))) (d+1) v #[.int .i64 v.kind,.int .i64 v.num,.float .f64 v.flt,.string ⟨v.str.toArray⟩,.slice pp v.names.length pc,.slice p v.items.length cap]:=hvu.kept (huw.trans (hfb.below huw.size (by simpa using hub)));have HC:=zh (oval_any (d+1) v _ b (k+1) _ (by omega) _ hO1 hvk);have HS:=zh hS;clear hS hv hvu huw hb hvk hO1 hg h1 h2 hf1 hk0;generalize hVE:valsE [v]=ve at *;generalize hVS:someE v=se at *;clear hVE hVS;generalize (⟨v.str.toArray⟩:ByteArray)=S at *;generalize v.kind=K at *;generalize v.num=X at *;generalize v.flt=fa at *;generalize v.names.length=M at *;generalize v.items.length=N at *;have a0:((w.alloc (.cells #[.int .i64 K,.int .i64 X,.float .f64 fa,.string S,.slice pp M pc,.slice p N cap] 28)).setCell ⟨b,0,none⟩ (.string (s++⟨#[1]⟩))).cell? ⟨w.heap.size,0,none⟩=some (.int .i64 K):=by rw[zc hnB];rfl
  have a1:((w.alloc (.cells #[.int .i64 K,.int .i64 X,.float .f64 fa,.string S,.slice pp M pc,.slice p N cap] 28)).setCell ⟨b,0,none⟩ (.string (s++⟨#[1]⟩))).cell? ⟨w.heap.size,1,none⟩=some (.int .i64 X):=by rw[zc hnB];rfl
  have a2:((w.alloc (.cells #[.int .i64 K,.int .i64 X,.float .f64 fa,.string S,.slice pp M pc,.slice p N cap] 28)).setCell ⟨b,0,none⟩ (.string (s++⟨#[1]⟩))).cell? ⟨w.heap.size,2,none⟩=some (.float .f64 fa):=by rw[zc hnB];rfl
  have a3:((w.alloc (.cells #[.int .i64 K,.int .i64 X,.float .f64 fa,.string S,.slice pp M pc,.slice p N cap] 28)).setCell ⟨b,0,none⟩ (.string (s++⟨#[1]⟩))).cell? ⟨w.heap.size,3,none⟩=some (.string S):=by rw[zc hnB];rfl
  have a4:((w.alloc (.cells #[.int .i64 K,.int .i64 X,.float .f64 fa,.string S,.slice pp M pc,.slice p N cap] 28)).setCell ⟨b,0,none⟩ (.string (s++⟨#[1]⟩))).cell? ⟨w.heap.size,4,none⟩=some (.slice pp M pc):=by rw[zc hnB];rfl
  have a5:((w.alloc (.cells #[.int .i64 K,.int .i64 X,.float .f64 fa,.string S,.slice pp M pc,.slice p N cap] 28)).setCell ⟨b,0,none⟩ (.string (s++⟨#[1]⟩))).cell? ⟨w.heap.size,5,none⟩=some (.slice p N cap):=by rw[zc hnB];rfl
  have HFB:=zh hfb;clear hfb hnB hB;go_in;go_upto_region 1 with (fail)
  generalize w.alloc (.cells #[.int .i64 K,.int .i64 X,.float .f64 fa,.string S,.slice pp M pc,.slice p N cap] 28)=W1 at *;obtain⟨a0,a1,a2,a3,a4,a5⟩:=cells6 hnA;clear hnA;go_wp2_with fail
  refine(HC.out).mono ?_;rintro e w3 ⟨rfl,hO3,hF3⟩;go_wp2_with fail
  go_end0;refine⟨rfl,?_,HFB.out.trans hF3⟩;have e1:catO o se=catO (catO o (some [1])) ve:=by rw[HS.out,catO_assoc];rfl
  rw[e1];exact hO3.more (by omega)
end
section
open Go.RowKit
theorem numsE_cat (a:Int) (l:List Int):numsE (a::l)=catO (numsE [a]) (numsE l):=by
 rw[numsE,numsE,numsE];by_cases h:inN a=true
 ·rw[if_pos h,if_pos h];cases numsE l<;>simp[catO,preB]
 ·rw[if_neg h,if_neg h];rfl
theorem catO_one (o:Option (List UInt8)):catO (some []) o=o:=by cases o<;>rfl
theorem rCmd13_any (c:CmdT) (d:Nat) (cs:Array Value) (w:World) (hc:CmdAt w (d+1) c cs):Calls Tryz.prog 7 #[.agg cs] w (Gives (bytesC (cmdE c)) w):=by
 obtain⟨pp,pc,p,cap,pp',pc',p',cap',rfl,hkk,hv⟩:=hc;have hE:catO (catO (catO (catO (catO (catO (catO (some []) (numsE [c.kind])) (numsE [c.node])) (numsE [c.label])) (numsE [c.inst])) (numsE [c.n])) (someE c.key)) (someE c.v)=cmdE c:=by
  unfold cmdE;rw[numsE_cat c.kind [c.node,c.label,c.inst,c.n],numsE_cat c.node [c.label,c.inst,c.n],numsE_cat c.label [c.inst,c.n],numsE_cat c.inst [c.n],catO_one];simp only[catO_assoc]
 have hz1:(w.alloc (.cells #[.int .i64 c.kind,.int .i64 c.node,.int .i64 c.label,.int .i64 c.inst,.int .i64 c.n,.int .i64 c.key.kind,.int .i64 c.key.num,.float .f64 c.key.flt,.string ⟨c.key.str.toArray⟩,.slice pp c.key.names.length pc,.slice p c.key.items.length cap,.int .i64 c.v.kind,.int .i64 c.v.num,.float .f64 c.v.flt,.string ⟨c.v.str.toArray⟩,.slice pp' c.v.names.length pc',.slice p' c.v.items.length cap'] 30)).heap.size=w.heap.size+1:=by simp
 have f0:=(Below.refl w.heap.size w).alloc (Nat.le_refl _) (.cells #[.int .i64 c.kind,.int .i64 c.node,.int .i64 c.label,.int .i64 c.inst,.int .i64 c.n,.int .i64 c.key.kind,.int .i64 c.key.num,.float .f64 c.key.flt,.string ⟨c.key.str.toArray⟩,.slice pp c.key.names.length pc,.slice p c.key.items.length cap,.int .i64 c.v.kind,.int .i64 c.v.num,.float .f64 c.v.flt,.string ⟨c.v.str.toArray⟩,.slice pp' c.v.names.length pc',.slice p' c.v.items.length cap'] 30);have h0:=heap_alloc_new w (.cells #[.int .i64 c.kind,.int .i64 c.node,.int .i64 c.label,.int .i64 c.inst,.int .i64 c.n,.int .i64 c.key.kind,.int .i64 c.key.num,.float .f64 c.key.flt,.string ⟨c.key.str.toArray⟩,.slice pp c.key.names.length pc,.slice p c.key.items.length cap,.int .i64 c.v.kind,.int .i64 c.v.num,.float .f64 c.v.flt,.string ⟨c.v.str.toArray⟩,.slice pp' c.v.names.length pc',.slice p' c.v.items.length cap'] 30);generalize hW1:w.alloc (.cells #[.int .i64 c.kind,.int .i64 c.node,.int .i64 c.label,.int .i64 c.inst,.int .i64 c.n,.int .i64 c.key.kind,.int .i64 c.key.num,.float .f64 c.key.flt,.string ⟨c.key.str.toArray⟩,.slice pp c.key.names.length pc,.slice p c.key.items.length cap,.int .i64 c.v.kind,.int .i64 c.v.num,.float .f64 c.v.flt,.string ⟨c.v.str.toArray⟩,.slice pp' c.v.names.length pc',.slice p' c.v.items.length cap'] 30)=W1 at *;have hz2:(W1.alloc (.cells #[.string ⟨#[]⟩,.bool false] 62)).heap.size=w.heap.size+2:=by simp[hz1]
 have h1:=heap_alloc_new W1 (.cells #[.string ⟨#[]⟩,.bool false] 62);have k1:=(Below.refl W1.heap.size W1).alloc (Nat.le_refl _) (.cells #[.string ⟨#[]⟩,.bool false] 62);generalize hW2:W1.alloc (.cells #[.string ⟨#[]⟩,.bool false] 62)=W2 at *;rw[hz1]at h1;have h0:=(k1.block _ (lt_of_block h0)).trans h0;have hbw:=zh (below_tr' f0 k1);have ho0:OutAt (w.heap.size+1) 0 (some []) W2:=⟨_,_,h1,Nat.le_refl 0,fun l h=>by cases h;exact⟨rfl,rfl⟩,fun h=>by cases h⟩
 have HC:=zh (fun(x:World) (h:Fr [w.heap.size+1] W2 x) j=>(show x.cell? ⟨w.heap.size,j,none⟩=(#[.int .i64 c.kind,.int .i64 c.node,.int .i64 c.label,.int .i64 c.inst,.int .i64 c.n,.int .i64 c.key.kind,.int .i64 c.key.num,.float .f64 c.key.flt,.string ⟨c.key.str.toArray⟩,.slice pp c.key.names.length pc,.slice p c.key.items.length cap,.int .i64 c.v.kind,.int .i64 c.v.num,.float .f64 c.v.flt,.string ⟨c.v.str.toArray⟩,.slice pp' c.v.names.length pc',.slice p' c.v.items.length cap']:Array Value)[j]? from by rw[zc (h.at h0 (by simp))]));have HN:=zh (fun x k o hk w' hb=>onum1_any x (w.heap.size+1) k o hk w' hb);have HSK:=zh (fun k o hk w' huw hb=>osome_any d c.key _ (w.heap.size+1) k o hk w w' (Nat.le_succ _) huw hb hkk);have HSV:=zh (fun k o hk w' huw hb=>osome_any d c.v _ (w.heap.size+1) k o hk w w' (Nat.le_succ _) huw hb hv);have HW1:=zh hW1;have HW2:=zh hW2;have HE:=zh hE;have HZ:=zh hz2;clear hW1 hW2 hE hz1 hz2 f0 k1 h0 h1 hkk hv;go_in;go_upto_region 2 with (fail)
 rw[HW1.out,HW2.out];have x0:W2.cell? ⟨w.heap.size,0,none⟩=some (.int .i64 c.kind):=by rw[HC.out _ (Fr.refl [w.heap.size+1] W2)];rfl
 have HN0:=zh (HN.out c.kind _ _ (by omega) _ ho0);go_wp2_with fail
 refine(HN0.out).mono ?_;rintro e w1 ⟨rfl,ho1,hf1⟩;have F1:=(Fr.refl [w.heap.size+1] W2).trans hf1;clear x0;have x1:w1.cell? ⟨w.heap.size,1,none⟩=some (.int .i64 c.node):=by rw[HC.out _ F1];rfl
 have HN1:=zh (HN.out c.node _ _ (by omega) _ ho1);go_wp2_with fail
 refine(HN1.out).mono ?_;rintro e w2 ⟨rfl,ho2,hf2⟩;have F2:=F1.trans hf2;clear x1;have x2:w2.cell? ⟨w.heap.size,2,none⟩=some (.int .i64 c.label):=by rw[HC.out _ F2];rfl
 have HN2:=zh (HN.out c.label _ _ (by omega) _ ho2);go_wp2_with fail
 refine(HN2.out).mono ?_;rintro e w3 ⟨rfl,ho3,hf3⟩;have F3:=F2.trans hf3;clear x2;have x3:w3.cell? ⟨w.heap.size,3,none⟩=some (.int .i64 c.inst):=by rw[HC.out _ F3];rfl
 have HN3:=zh (HN.out c.inst _ _ (by omega) _ ho3);go_wp2_with fail
 refine(HN3.out).mono ?_;rintro e w4 ⟨rfl,ho4,hf4⟩;have F4:=F3.trans hf4;clear x3;have x4:w4.cell? ⟨w.heap.size,4,none⟩=some (.int .i64 c.n):=by rw[HC.out _ F4];rfl
 have HN4:=zh (HN.out c.n _ _ (by omega) _ ho4);go_wp2_with fail
 refine(HN4.out).mono ?_;rintro e w5 ⟨rfl,ho5,hf5⟩;have F5:=F4.trans hf5;clear x4;have y0:w5.cell? ⟨w.heap.size,5,none⟩=some (.int .i64 c.key.kind):=by rw[HC.out _ F5];rfl
 have y1:w5.cell? ⟨w.heap.size,6,none⟩=some (.int .i64 c.key.num):=by rw[HC.out _ F5];rfl
 have y2:w5.cell? ⟨w.heap.size,7,none⟩=some (.float .f64 c.key.flt):=by rw[HC.out _ F5];rfl
 have y3:w5.cell? ⟨w.heap.size,8,none⟩=some (.string ⟨c.key.str.toArray⟩):=by rw[HC.out _ F5];rfl
 have y4:w5.cell? ⟨w.heap.size,9,none⟩=some (.slice pp c.key.names.length pc):=by rw[HC.out _ F5];rfl
 have y5:w5.cell? ⟨w.heap.size,10,none⟩=some (.slice p c.key.items.length cap):=by rw[HC.out _ F5];rfl
 have HS5:=zh (HSK.out _ _ (by omega) _ (hbw.out.trans ((F5.below (B:=w.heap.size) (by have:=HZ.out;omega) (by simp)).mono (Nat.le_refl _))) ho5);go_wp2_with fail
 refine(HS5.out).mono ?_;rintro e w6 ⟨rfl,ho6,hf6⟩;have F6:=F5.trans hf6;clear y0 y1 y2 y3 y4 y5;have y0:w6.cell? ⟨w.heap.size,11,none⟩=some (.int .i64 c.v.kind):=by rw[HC.out _ F6];rfl
 have y1:w6.cell? ⟨w.heap.size,12,none⟩=some (.int .i64 c.v.num):=by rw[HC.out _ F6];rfl
 have y2:w6.cell? ⟨w.heap.size,13,none⟩=some (.float .f64 c.v.flt):=by rw[HC.out _ F6];rfl
 have y3:w6.cell? ⟨w.heap.size,14,none⟩=some (.string ⟨c.v.str.toArray⟩):=by rw[HC.out _ F6];rfl
 have y4:w6.cell? ⟨w.heap.size,15,none⟩=some (.slice pp' c.v.names.length pc'):=by rw[HC.out _ F6];rfl
 have y5:w6.cell? ⟨w.heap.size,16,none⟩=some (.slice p' c.v.items.length cap'):=by rw[HC.out _ F6];rfl
 have HS6:=zh (HSV.out _ _ (by omega) _ (hbw.out.trans ((F6.below (B:=w.heap.size) (by have:=HZ.out;omega) (by simp)).mono (Nat.le_refl _))) ho6);go_wp2_with fail
 refine(HS6.out).mono ?_;rintro e w7 ⟨rfl,ho7,hf7⟩;have F7:=F6.trans hf7;clear y0 y1 y2 y3 y4 y5;obtain⟨S,bad,hg,_,hq1,hq2⟩:=ho7;have hbel:Below w.heap.size w w7:=hbw.out.trans (F7.below (by have:=HZ.out;omega) (by simp));have c0:w7.cell? ⟨w.heap.size+1,0,none⟩=some (.string S):=by rw[zc hg];rfl
 have c1:w7.cell? ⟨w.heap.size+1,1,none⟩=some (.bool bad):=by rw[zc hg];rfl
 rw[HE.out]at hq1 hq2;generalize cmdE c=r at *;cases r with
 | none =>
  have hq:=hq2 rfl;subst hq;clear hq1 hq2;go_wp2_with fail
  go_ret2;exact⟨rfl,hbel⟩
 | some q =>
  obtain⟨rfl,rfl⟩:=hq1 q rfl;clear hq2;go_wp2_with fail
  go_ret2;have e:(⟨S.data.toList.toArray⟩:ByteArray)=S:=by apply ByteArray.ext;simp
  exact⟨ret_val (by rw[show bytesC (some S.data.toList)=Value.tuple #[.string ⟨S.data.toList.toArray⟩,.int .i64 0] from rfl,e];rfl),hbel⟩
end
section
open Go.RowKit
section
variable {P:Program} {ops:Array Oper} {rest:List Oper} {o:Oper} {a:Act} {Q:Exit→Act→World→Prop} {w w':World} {v:Value} {t:TypeId} {b n:Nat} {T:TypeId} {cs:Array Value} {z:Nat × Nat} {ad:Operand}
theorem run_loadRow (ha:Ev.isAgg P t=some true) (hs:Ev.sizeOf P t=some n) (hb:w.heap[b]?=some (.cells cs T z)) (hn:cs.size=n):(loadVar t ⟨b,0,none⟩).run P w=.ok (.agg cs) w:=by
 have hrun:=run_loadCells_list (P:=P) w ⟨b,0,none⟩ cs.toList fun j u hu=>by
  rw[Ev.add_off,Ev.cell_row hb,Nat.zero_add];simpa using hu
 have hl:cs.toList.length=n:=by simpa using hn
 rw[hl]at hrun;unfold loadVar;simp only[Sem.run_bind,Ev.run_isAgg ha,Result.andThen_ok,if_true,Ev.run_sizeOf hs,hrun,Sem.run_pure]
theorem exec_loadRow {ρ:Operand→Value} (ho:o.op=.load t ad) (ea:ρ ad=.pointer (some ⟨b,0,none⟩)) (ha:Ev.isAgg P t=some true) (hs:Ev.sizeOf P t=some n) (hb:w.heap[b]?=some (.cells cs T z)) (hn:cs.size=n):(execOp ρ o).run P w=.ok (.value (.agg cs)) w:=by
 unfold execOp;simp only[ho,ea,Instr.loadAt,Instr.sureAddr,Sem.run_bind,Sem.run_pure,Result.andThen_ok,run_loadRow ha hs hb hn]
theorem wpList_loadG (ho:o.op=.load t ad) (hw:Region.wanted o (yielded ops a.tmps)=true) (ea:a.eval ad=.pointer (some ⟨b,0,none⟩)) (ha:Ev.isAgg P t=some true) (hs:Ev.sizeOf P t=some n) (hb:w.heap[b]?=some (.cells cs T z)) (hn:cs.size=n)
  (h:wpList P ops Q rest (a.put o.dst (.agg cs)) w):wpList P ops Q (o::rest) a w:=by
 show(if _ then _ else _)
 rw[if_pos hw];refine .inl ?_;unfold Oper.wp;rw[exec_loadRow ho ea ha hs hb hn];exact h
end
end
end Go.Proofs.YtepaaochgljcdaaGreatDoor
