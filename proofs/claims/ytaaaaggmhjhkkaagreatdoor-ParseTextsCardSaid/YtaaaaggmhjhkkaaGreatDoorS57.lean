/-
  Hk in one text.
-/
import Derived.Lib.QuoteBits
import Derived.Test.YtaaaaggmhjhkkaaGreatDoorS56
import Derived.Test.YtaaaaggmhjhkkaaGreatDoorCl
set_option maxRecDepth 100000
set_option maxHeartbeats 2000000
namespace Go.Proofs.YtaaaaggmhjhkkaaGreatDoor
open Go.RowKit
theorem rops_any (w:World):Calls Tryz.prog 29 #[] w (NewRow #[.string ⟨#[43]⟩,.string ⟨#[45]⟩,.string ⟨#[42]⟩,.string ⟨#[47]⟩,.string ⟨#[37]⟩,.string ⟨#[61,61]⟩,.string ⟨#[60]⟩,.string ⟨#[60,61]⟩,.string ⟨#[38,38]⟩,.string ⟨#[124,124]⟩] 10 w):=by
 have hB:=(Below.refl w.heap.size w).alloc (Nat.le_refl _) (.cells #[.string ⟨#[43]⟩,.string ⟨#[45]⟩,.string ⟨#[42]⟩,.string ⟨#[47]⟩,.string ⟨#[37]⟩,.string ⟨#[61,61]⟩,.string ⟨#[60]⟩,.string ⟨#[60,61]⟩,.string ⟨#[38,38]⟩,.string ⟨#[124,124]⟩] 9);have hn:=heap_alloc_new w (.cells #[.string ⟨#[43]⟩,.string ⟨#[45]⟩,.string ⟨#[42]⟩,.string ⟨#[47]⟩,.string ⟨#[37]⟩,.string ⟨#[61,61]⟩,.string ⟨#[60]⟩,.string ⟨#[60,61]⟩,.string ⟨#[38,38]⟩,.string ⟨#[124,124]⟩] 9);go_in;go_wp2_with fail
 go_ret;exact⟨_,ret_val rfl,hn,hB⟩
theorem wpAnyH_weak {P:Program} {md:Region.Mode} {ops:Array Oper} {Q:Exit→Act→World→Prop} {S S':World→Prop} (hi:∀ w,S' w→S w):∀ (fuel:Nat) (listed:Array Bool) (a:Act) (w:World),wpAnyH P md ops Q S' fuel listed a w→wpAnyH P md ops Q S fuel listed a w
 | 0,_,_,_,h=>h
 | f+1,_,_,_,h=>⟨h.1,fun i hr=>wpOp_mono (fun a' w' h'=>⟨hi _ h'.1,wpAnyH_weak hi f _ a' w' h'.2⟩) (h.2 i hr)⟩
theorem text8_20 (d:Nat) (IH:TE d) (x:ET) (cs:Array Value) (far:Nat) (w:World) (h:ExAt' w (d+1) x cs) (hr:rightE x far=true) (hi:inE x) (hz:szE x≤200) (k:x.kind=20) :
  Calls Tryz.prog 14 #[.agg cs] w (Gives (.string ⟨(textE x).toArray⟩) w):=by
 have hn:x.kids.length=1:=(right_parts hr).1 1 (by rw[k];rfl);have hsl:=str_len hr;obtain⟨qn,qi,np,nc,p,cap,rfl,_,_,_,hkid⟩:=open8 IH h hr hi hz;obtain⟨g,off,k0,k1,k2,k3,k4,k5,k6,k7,k8,k9,hp0,hc0,hT0,hF0,hl0,hm0⟩:=hkid 0 (by omega);subst hp0;have hE:textE x=([108,101,110]:List UInt8)++[40]++textE (x.kids.getD 0 noET)++[41]:=by
  rw[textE_c (by omega) (by omega) hn];rw[k];obtain⟨a,ha⟩:=len1 hn;rw[ha]<;>simp[textEL,allT,callsB]
 replace hE:(⟨(textE x).toArray⟩:ByteArray)=⟨(([108,101,110]:List UInt8)++[40]++textE (x.kids.getD 0 noET)++[41]).toArray⟩:=by rw[hE]
 generalize textE (x.kids.getD 0 noET)=t0 at *;clear h hr hi hz hkid;rw[k,hn];have hB:Below w.heap.size w (w.alloc (.cells #[.int .i64 20,.string ⟨x.str.toArray⟩,.int .i64 x.v.kind,.int .i64 x.v.num,.float .f64 x.v.flt,.string ⟨x.v.str.toArray⟩,qn,qi,.slice np x.names.length nc,.slice (some ⟨g,off,none⟩) 1 cap] 29)):=(Below.refl _ _).alloc (Nat.le_refl _) _;have hnew:(w.alloc (.cells #[.int .i64 20,.string ⟨x.str.toArray⟩,.int .i64 x.v.kind,.int .i64 x.v.num,.float .f64 x.v.flt,.string ⟨x.v.str.toArray⟩,qn,qi,.slice np x.names.length nc,.slice (some ⟨g,off,none⟩) 1 cap] 29)).heap[w.heap.size]?=some (.cells #[.int .i64 20,.string ⟨x.str.toArray⟩,.int .i64 x.v.kind,.int .i64 x.v.num,.float .f64 x.v.flt,.string ⟨x.v.str.toArray⟩,qn,qi,.slice np x.names.length nc,.slice (some ⟨g,off,none⟩) 1 cap] 29 (0,0)):=heap_alloc_new w _;obtain⟨C1,hC1⟩:∃ C:ByteArray,C=⟨(([108,101,110]:List UInt8)++[40]).toArray⟩:=⟨_,rfl⟩;have hs1:∀ w,(Op.stringOp .add ⟨(([108,101,110]:List UInt8)).toArray⟩ ⟨([40]).toArray⟩).run Tryz.prog w=.ok (.string C1) w:=fun w=>by
  rw[hC1,run_string_add_sum w _ _ (by simp[ByteArray.size]<;>omega),ba_cat]
 obtain⟨C2,hC2⟩:∃ C:ByteArray,C=⟨((([108,101,110]:List UInt8)++[40])++t0).toArray⟩:=⟨_,rfl⟩;have hs2:∀ w,(Op.stringOp .add C1 ⟨(t0).toArray⟩).run Tryz.prog w=.ok (.string C2) w:=fun w=>by
  rw[hC1];rw[hC2,run_string_add_sum w _ _ (by simp[ByteArray.size]<;>omega),ba_cat]
 obtain⟨C3,hC3⟩:∃ C:ByteArray,C=⟨(((([108,101,110]:List UInt8)++[40])++t0)++[41]).toArray⟩:=⟨_,rfl⟩;have hs3:∀ w,(Op.stringOp .add C2 ⟨([41]).toArray⟩).run Tryz.prog w=.ok (.string C3) w:=fun w=>by
  rw[hC2];rw[hC3,run_string_add_sum w _ _ (by simp[ByteArray.size]<;>omega),ba_cat]
 rw[←hC3]at hE;have HE:=zh hE;clear hE hC1 hC2 hC3;generalize (⟨t0.toArray⟩:ByteArray)=T_t0 at *;go_in;go_upto_region 1 with (fail)
 generalize w.alloc (.cells #[.int .i64 20,.string ⟨x.str.toArray⟩,.int .i64 x.v.kind,.int .i64 x.v.num,.float .f64 x.v.flt,.string ⟨x.v.str.toArray⟩,qn,qi,.slice np x.names.length nc,.slice (some ⟨g,off,none⟩) 1 cap] 29)=W1 at *;have hLt:=lt_of_block hnew;have HS:Hid (∀ w',Below W1.heap.size W1 w'→w'.cell? ⟨w.heap.size,0,none⟩=some (.int .i64 20)∧w'.cell? ⟨g,off,none⟩=some k0∧w'.cell? ⟨g,off+1,none⟩=some k1∧w'.cell? ⟨g,off+2,none⟩=some k2∧w'.cell? ⟨g,off+3,none⟩=some k3∧w'.cell? ⟨g,off+4,none⟩=some k4∧w'.cell? ⟨g,off+5,none⟩=some k5∧w'.cell? ⟨g,off+6,none⟩=some k6∧w'.cell? ⟨g,off+7,none⟩=some k7∧w'.cell? ⟨g,off+8,none⟩=some k8∧w'.cell? ⟨g,off+9,none⟩=some k9):=zh (fun w' hb=>⟨(by rw[zc ((hb.block _ hLt).trans hnew)];rfl),(by have:=hc0 w' (hB.trans (hb.mono hB.size));simpa using this.1),(by have:=hc0 w' (hB.trans (hb.mono hB.size));simpa using this.2.1),(by have:=hc0 w' (hB.trans (hb.mono hB.size));simpa using this.2.2.1),(by have:=hc0 w' (hB.trans (hb.mono hB.size));simpa using this.2.2.2.1),(by have:=hc0 w' (hB.trans (hb.mono hB.size));simpa using this.2.2.2.2.1),(by have:=hc0 w' (hB.trans (hb.mono hB.size));simpa using this.2.2.2.2.2.1),(by have:=hc0 w' (hB.trans (hb.mono hB.size));simpa using this.2.2.2.2.2.2.1),(by have:=hc0 w' (hB.trans (hb.mono hB.size));simpa using this.2.2.2.2.2.2.2.1),(by have:=hc0 w' (hB.trans (hb.mono hB.size));simpa using this.2.2.2.2.2.2.2.2.1),(by have:=hc0 w' (hB.trans (hb.mono hB.size));simpa using this.2.2.2.2.2.2.2.2.2)⟩);have HC0:=zh (fun w' (hb:Below W1.heap.size W1 w')=>hT0 w' (hB.trans (hb.mono hB.size)));clear hc0 hT0 hF0 hl0 hm0;have hr0:Below W1.heap.size W1 W1:=Below.refl _ _;obtain⟨a0,a1,a9⟩:W1.cell? ⟨w.heap.size,0,none⟩=some (.int .i64 20)∧W1.cell? ⟨w.heap.size,1,none⟩=some (.string ⟨x.str.toArray⟩)∧W1.cell? ⟨w.heap.size,9,none⟩=some (.slice (some ⟨g,off,none⟩) 1 cap):=⟨by rw[zc hnew];rfl,by rw[zc hnew];rfl,by rw[zc hnew];rfl⟩;clear hnew hLt;go_wp2_with fail
 have hwr:IntKind.i64.wrap 0=0:=by decide
 refine wp_region_held_drew (S:=(fun w'=>w'.cell? ⟨w.heap.size,0,none⟩=some (.int .i64 20)∧w'.cell? ⟨g,off,none⟩=some k0∧w'.cell? ⟨g,off+1,none⟩=some k1∧w'.cell? ⟨g,off+2,none⟩=some k2∧w'.cell? ⟨g,off+3,none⟩=some k3∧w'.cell? ⟨g,off+4,none⟩=some k4∧w'.cell? ⟨g,off+5,none⟩=some k5∧w'.cell? ⟨g,off+6,none⟩=some k6∧w'.cell? ⟨g,off+7,none⟩=some k7∧w'.cell? ⟨g,off+8,none⟩=some k8∧w'.cell? ⟨g,off+9,none⟩=some k9)) (by kernel_rfl) (HS.out _ hr0.drew) (fun hHeld=>?_);refine wpAnyH_take (i:=1) (oi:=_) (v:=?v1) rfl (by kernel_rfl) (by kernel_rfl) (by kernel_rfl) (fun _ _ _ h=>h) (Or.inl ⟨by rfl,?hy1⟩) (by assumption) ?rest1
 case hy1=>(intro w0 hSw;(try dsimp only at hSw);go_simp;try with_reducible rfl)
 try simp only[Act.put,List.setIfInBounds_toArray]
 refine wpAnyH_take (i:=2) (oi:=_) (v:=?v2) rfl (by kernel_rfl) (by kernel_rfl) (by kernel_rfl) (fun _ _ _ h=>h) (Or.inl ⟨by rfl,?hy2⟩) (by assumption) ?rest2
 case hy2=>(intro w0 hSw;(try dsimp only at hSw);go_simp;try with_reducible rfl)
 try simp only[Act.put]
 refine wpAnyH_take (i:=3) (oi:=_) (v:=?v3) rfl (by kernel_rfl) (by kernel_rfl) (by kernel_rfl) (fun _ _ _ h=>h) (Or.inl ⟨by rfl,?hy3⟩) (by assumption) ?rest3
 case hy3=>(intro w0 hSw;(try dsimp only at hSw);go_simp;try with_reducible rfl)
 try simp only[Act.put]
 refine wpAnyH_take (i:=7) (oi:=_) (v:=?v4) rfl (by kernel_rfl) (by kernel_rfl) (by kernel_rfl) (fun _ _ _ h=>h) (Or.inl ⟨by rfl,?hy4⟩) (by assumption) ?rest4
 case hy4=>(intro w0 hSw;(try dsimp only at hSw);go_simp;try with_reducible rfl)
 try simp only[Act.put]
 refine wpAnyH_take (i:=8) (oi:=_) (v:=?v5) rfl (by kernel_rfl) (by kernel_rfl) (by kernel_rfl) (fun _ _ _ h=>h) (Or.inl ⟨by rfl,?hy5⟩) (by assumption) ?rest5
 case hy5=>(intro w0 hSw;(try dsimp only at hSw);go_simp;try with_reducible rfl)
 try simp only[Act.put]
 refine wpAnyH_take (i:=9) (oi:=_) (v:=?v6) rfl (by kernel_rfl) (by kernel_rfl) (by kernel_rfl) (fun _ _ _ h=>h) (Or.inl ⟨by rfl,?hy6⟩) (by assumption) ?rest6
 case hy6=>(intro w0 hSw;(try dsimp only at hSw);go_simp;try with_reducible rfl)
 try simp only[Act.put]
 refine wpAnyH_ready (rs:=[0,10]) (by kernel_rfl) (by simp) ?_;refine AllReadyH.cons (o:=_) rfl (fun K2 hK2=>?_) (AllReadyH.cons (o:=_) rfl (fun K2 hK2=>?_) AllReadyH.nil)
 ·go_simp
  have hA1:Below W1.heap.size W1 (W1.alloc (.cells #[.string ⟨#[108,101,110]⟩,.string ⟨#[102,108,111,97,116]⟩,.string ⟨#[105,110,116]⟩,.string ⟨#[115,116,114]⟩] 9)).drew:=(hr0.alloc (Nat.le_refl _) _).drew;refine hK2.out _ _ (HS.out _ hA1) (fun hHeld=>?_);clear hK2 K2;try simp only[Act.put,List.setIfInBounds_toArray,List.set_cons_zero,List.set_cons_succ]
  clear hHeld;have cG:(W1.alloc (.cells #[.string ⟨#[108,101,110]⟩,.string ⟨#[102,108,111,97,116]⟩,.string ⟨#[105,110,116]⟩,.string ⟨#[115,116,114]⟩] 9)).cell? ⟨W1.heap.size,0,none⟩=some (.string ⟨#[108,101,110]⟩):=cell_row (heap_alloc_new W1 _) rfl;refine wpAnyH_weak (S':=(fun w'=>(w'.cell? ⟨w.heap.size,0,none⟩=some (.int .i64 20)∧w'.cell? ⟨g,off,none⟩=some k0∧w'.cell? ⟨g,off+1,none⟩=some k1∧w'.cell? ⟨g,off+2,none⟩=some k2∧w'.cell? ⟨g,off+3,none⟩=some k3∧w'.cell? ⟨g,off+4,none⟩=some k4∧w'.cell? ⟨g,off+5,none⟩=some k5∧w'.cell? ⟨g,off+6,none⟩=some k6∧w'.cell? ⟨g,off+7,none⟩=some k7∧w'.cell? ⟨g,off+8,none⟩=some k8∧w'.cell? ⟨g,off+9,none⟩=some k9)∧w'.cell? ⟨W1.heap.size,0,none⟩=some (.string ⟨#[108,101,110]⟩))) (fun w h=>h.1) _ _ _ _ ?_;have hHeld:(fun w'=>(w'.cell? ⟨w.heap.size,0,none⟩=some (.int .i64 20)∧w'.cell? ⟨g,off,none⟩=some k0∧w'.cell? ⟨g,off+1,none⟩=some k1∧w'.cell? ⟨g,off+2,none⟩=some k2∧w'.cell? ⟨g,off+3,none⟩=some k3∧w'.cell? ⟨g,off+4,none⟩=some k4∧w'.cell? ⟨g,off+5,none⟩=some k5∧w'.cell? ⟨g,off+6,none⟩=some k6∧w'.cell? ⟨g,off+7,none⟩=some k7∧w'.cell? ⟨g,off+8,none⟩=some k8∧w'.cell? ⟨g,off+9,none⟩=some k9)∧w'.cell? ⟨W1.heap.size,0,none⟩=some (.string ⟨#[108,101,110]⟩)) (W1.alloc (.cells #[.string ⟨#[108,101,110]⟩,.string ⟨#[102,108,111,97,116]⟩,.string ⟨#[105,110,116]⟩,.string ⟨#[115,116,114]⟩] 9)).drew:=⟨HS.out _ hA1,cG⟩;refine wpAnyH_take (i:=4) (oi:=_) (v:=?v7) rfl (by kernel_rfl) (by kernel_rfl) (by kernel_rfl) (fun _ _ _ h=>h) (Or.inl ⟨by rfl,?hy7⟩) (by assumption) ?rest7
  case hy7=>(intro w0 hSw;(try dsimp only at hSw);go_simp;try with_reducible rfl)
  try simp only[Act.put,List.setIfInBounds_toArray]
  refine wpAnyH_take (i:=5) (oi:=_) (v:=?v8) rfl (by kernel_rfl) (by kernel_rfl) (by kernel_rfl) (fun _ _ _ h=>h) (Or.inl ⟨by rfl,?hy8⟩) (by assumption) ?rest8
  case hy8=>(intro w0 hSw;(try dsimp only at hSw);go_simp;try with_reducible rfl)
  try simp only[Act.put]
  refine wpAnyH_take (i:=6) (oi:=_) (v:=?v9) rfl (by kernel_rfl) (by kernel_rfl) (by kernel_rfl) (fun _ _ _ h=>h) (Or.inl ⟨by rfl,?hy9⟩) (by assumption) ?rest9
  case hy9=>(intro w0 hSw;(try dsimp only at hSw);go_simp;try with_reducible rfl)
  try simp only[Act.put]
  refine wpAnyH_ready (rs:=[10]) (by kernel_rfl) (by simp) ?_;refine AllReadyH.cons (o:=_) rfl (fun K hK=>?_) AllReadyH.nil;go_simp
  go_at_call 14
  (with_reducible refine(HC0.out _ hA1).mono ?_);rintro e v0 ⟨rfl,hz0⟩
  have hb0:Below W1.heap.size W1 v0:=below_tr' hA1 hz0;refine hK.out _ _ (⟨HS.out _ hb0,(hz0.cell (p:=⟨W1.heap.size,0,none⟩) (by simp)).trans cG⟩) (fun hHeld=>?_);clear hK K;try simp only[Act.put,List.setIfInBounds_toArray,List.set_cons_zero,List.set_cons_succ]
  refine wpAnyH_take (i:=11) (oi:=_) (v:=?v10) rfl (by kernel_rfl) (by kernel_rfl) (by kernel_rfl) (fun _ _ _ h=>h) (Or.inl ⟨by rfl,?hy10⟩) (by assumption) ?rest10
  case hy10=>(intro w0 hSw;(try dsimp only at hSw);go_simp;try with_reducible rfl)
  try simp only[Act.put,List.setIfInBounds_toArray]
  refine wpAnyH_take (i:=12) (oi:=_) (v:=?v11) rfl (by kernel_rfl) (by kernel_rfl) (by kernel_rfl) (fun _ _ _ h=>h) (Or.inl ⟨by rfl,?hy11⟩) (by assumption) ?rest11
  case hy11=>(intro w0 hSw;(try dsimp only at hSw);go_simp;try with_reducible rfl)
  try simp only[Act.put]
  refine wpAnyH_take (i:=13) (oi:=_) (v:=?v12) rfl (by kernel_rfl) (by kernel_rfl) (by kernel_rfl) (fun _ _ _ h=>h) (Or.inl ⟨by rfl,?hy12⟩) (by assumption) ?rest12
  case hy12=>(intro w0 hSw;(try dsimp only at hSw);go_simp;try with_reducible rfl)
  try simp only[Act.put]
  refine wpAnyH_done (by kernel_rfl) ?_ _;go_wp2_with fail
  go_ret;exact⟨ret_val (by rw[HE.out]<;>rfl),hB.trans (hb0.mono hB.size)⟩
 ·go_simp
  go_at_call 14
  (with_reducible refine(HC0.out _ hr0.drew).mono ?_);rintro e v0 ⟨rfl,hz0⟩
  have hb0:Below W1.heap.size W1 v0:=below_tr' hr0.drew hz0;refine hK2.out _ _ (HS.out _ hb0) (fun hHeld=>?_);clear hK2 K2;try simp only[Act.put,List.setIfInBounds_toArray,List.set_cons_zero,List.set_cons_succ]
  have hA2:Below W1.heap.size W1 (v0.alloc (.cells #[.string ⟨#[108,101,110]⟩,.string ⟨#[102,108,111,97,116]⟩,.string ⟨#[105,110,116]⟩,.string ⟨#[115,116,114]⟩] 9)):=hb0.alloc hb0.size _;refine wpAnyH_ready (rs:=[0]) (by kernel_rfl) (by simp) ?_;refine AllReadyH.cons (o:=_) rfl (fun K hK=>?_) AllReadyH.nil;go_simp
  refine hK.out _ _ (HS.out _ hA2) (fun hHeld=>?_);clear hK K;try simp only[Act.put,List.setIfInBounds_toArray,List.set_cons_zero,List.set_cons_succ]
  clear hHeld;have cG:(v0.alloc (.cells #[.string ⟨#[108,101,110]⟩,.string ⟨#[102,108,111,97,116]⟩,.string ⟨#[105,110,116]⟩,.string ⟨#[115,116,114]⟩] 9)).cell? ⟨v0.heap.size,0,none⟩=some (.string ⟨#[108,101,110]⟩):=cell_row (heap_alloc_new v0 _) rfl;refine wpAnyH_weak (S':=(fun w'=>(w'.cell? ⟨w.heap.size,0,none⟩=some (.int .i64 20)∧w'.cell? ⟨g,off,none⟩=some k0∧w'.cell? ⟨g,off+1,none⟩=some k1∧w'.cell? ⟨g,off+2,none⟩=some k2∧w'.cell? ⟨g,off+3,none⟩=some k3∧w'.cell? ⟨g,off+4,none⟩=some k4∧w'.cell? ⟨g,off+5,none⟩=some k5∧w'.cell? ⟨g,off+6,none⟩=some k6∧w'.cell? ⟨g,off+7,none⟩=some k7∧w'.cell? ⟨g,off+8,none⟩=some k8∧w'.cell? ⟨g,off+9,none⟩=some k9)∧w'.cell? ⟨v0.heap.size,0,none⟩=some (.string ⟨#[108,101,110]⟩))) (fun w h=>h.1) _ _ _ _ ?_;have hHeld:(fun w'=>(w'.cell? ⟨w.heap.size,0,none⟩=some (.int .i64 20)∧w'.cell? ⟨g,off,none⟩=some k0∧w'.cell? ⟨g,off+1,none⟩=some k1∧w'.cell? ⟨g,off+2,none⟩=some k2∧w'.cell? ⟨g,off+3,none⟩=some k3∧w'.cell? ⟨g,off+4,none⟩=some k4∧w'.cell? ⟨g,off+5,none⟩=some k5∧w'.cell? ⟨g,off+6,none⟩=some k6∧w'.cell? ⟨g,off+7,none⟩=some k7∧w'.cell? ⟨g,off+8,none⟩=some k8∧w'.cell? ⟨g,off+9,none⟩=some k9)∧w'.cell? ⟨v0.heap.size,0,none⟩=some (.string ⟨#[108,101,110]⟩)) (v0.alloc (.cells #[.string ⟨#[108,101,110]⟩,.string ⟨#[102,108,111,97,116]⟩,.string ⟨#[105,110,116]⟩,.string ⟨#[115,116,114]⟩] 9)):=⟨HS.out _ hA2,cG⟩;refine wpAnyH_take (i:=4) (oi:=_) (v:=?v13) rfl (by kernel_rfl) (by kernel_rfl) (by kernel_rfl) (fun _ _ _ h=>h) (Or.inl ⟨by rfl,?hy13⟩) (by assumption) ?rest13
  case hy13=>(intro w0 hSw;(try dsimp only at hSw);go_simp;try with_reducible rfl)
  try simp only[Act.put,List.setIfInBounds_toArray]
  refine wpAnyH_take (i:=5) (oi:=_) (v:=?v14) rfl (by kernel_rfl) (by kernel_rfl) (by kernel_rfl) (fun _ _ _ h=>h) (Or.inl ⟨by rfl,?hy14⟩) (by assumption) ?rest14
  case hy14=>(intro w0 hSw;(try dsimp only at hSw);go_simp;try with_reducible rfl)
  try simp only[Act.put]
  refine wpAnyH_take (i:=6) (oi:=_) (v:=?v15) rfl (by kernel_rfl) (by kernel_rfl) (by kernel_rfl) (fun _ _ _ h=>h) (Or.inl ⟨by rfl,?hy15⟩) (by assumption) ?rest15
  case hy15=>(intro w0 hSw;(try dsimp only at hSw);go_simp;try with_reducible rfl)
  try simp only[Act.put]
  refine wpAnyH_take (i:=11) (oi:=_) (v:=?v16) rfl (by kernel_rfl) (by kernel_rfl) (by kernel_rfl) (fun _ _ _ h=>h) (Or.inl ⟨by rfl,?hy16⟩) (by assumption) ?rest16
  case hy16=>(intro w0 hSw;(try dsimp only at hSw);go_simp;try with_reducible rfl)
  try simp only[Act.put]
  refine wpAnyH_take (i:=12) (oi:=_) (v:=?v17) rfl (by kernel_rfl) (by kernel_rfl) (by kernel_rfl) (fun _ _ _ h=>h) (Or.inl ⟨by rfl,?hy17⟩) (by assumption) ?rest17
  case hy17=>(intro w0 hSw;(try dsimp only at hSw);go_simp;try with_reducible rfl)
  try simp only[Act.put]
  refine wpAnyH_take (i:=13) (oi:=_) (v:=?v18) rfl (by kernel_rfl) (by kernel_rfl) (by kernel_rfl) (fun _ _ _ h=>h) (Or.inl ⟨by rfl,?hy18⟩) (by assumption) ?rest18
  case hy18=>(intro w0 hSw;(try dsimp only at hSw);go_simp;try with_reducible rfl)
  try simp only[Act.put]
  refine wpAnyH_done (by kernel_rfl) ?_ _;go_wp2_with fail
  go_ret;exact⟨ret_val (by rw[HE.out]<;>rfl),hB.trans (hA2.mono hB.size)⟩
theorem text8_21 (d:Nat) (IH:TE d) (x:ET) (cs:Array Value) (far:Nat) (w:World) (h:ExAt' w (d+1) x cs) (hr:rightE x far=true) (hi:inE x) (hz:szE x≤200) (k:x.kind=21) :
  Calls Tryz.prog 14 #[.agg cs] w (Gives (.string ⟨(textE x).toArray⟩) w):=by
 have hn:x.kids.length=1:=(right_parts hr).1 1 (by rw[k];rfl);have hsl:=str_len hr;obtain⟨qn,qi,np,nc,p,cap,rfl,_,_,_,hkid⟩:=open8 IH h hr hi hz;obtain⟨g,off,k0,k1,k2,k3,k4,k5,k6,k7,k8,k9,hp0,hc0,hT0,hF0,hl0,hm0⟩:=hkid 0 (by omega);subst hp0;have hE:textE x=([102,108,111,97,116]:List UInt8)++[40]++textE (x.kids.getD 0 noET)++[41]:=by
  rw[textE_c (by omega) (by omega) hn];rw[k];obtain⟨a,ha⟩:=len1 hn;rw[ha]<;>simp[textEL,allT,callsB]
 replace hE:(⟨(textE x).toArray⟩:ByteArray)=⟨(([102,108,111,97,116]:List UInt8)++[40]++textE (x.kids.getD 0 noET)++[41]).toArray⟩:=by rw[hE]
 generalize textE (x.kids.getD 0 noET)=t0 at *;clear h hr hi hz hkid;rw[k,hn];have hB:Below w.heap.size w (w.alloc (.cells #[.int .i64 21,.string ⟨x.str.toArray⟩,.int .i64 x.v.kind,.int .i64 x.v.num,.float .f64 x.v.flt,.string ⟨x.v.str.toArray⟩,qn,qi,.slice np x.names.length nc,.slice (some ⟨g,off,none⟩) 1 cap] 29)):=(Below.refl _ _).alloc (Nat.le_refl _) _;have hnew:(w.alloc (.cells #[.int .i64 21,.string ⟨x.str.toArray⟩,.int .i64 x.v.kind,.int .i64 x.v.num,.float .f64 x.v.flt,.string ⟨x.v.str.toArray⟩,qn,qi,.slice np x.names.length nc,.slice (some ⟨g,off,none⟩) 1 cap] 29)).heap[w.heap.size]?=some (.cells #[.int .i64 21,.string ⟨x.str.toArray⟩,.int .i64 x.v.kind,.int .i64 x.v.num,.float .f64 x.v.flt,.string ⟨x.v.str.toArray⟩,qn,qi,.slice np x.names.length nc,.slice (some ⟨g,off,none⟩) 1 cap] 29 (0,0)):=heap_alloc_new w _;obtain⟨C1,hC1⟩:∃ C:ByteArray,C=⟨(([102,108,111,97,116]:List UInt8)++[40]).toArray⟩:=⟨_,rfl⟩;have hs1:∀ w,(Op.stringOp .add ⟨(([102,108,111,97,116]:List UInt8)).toArray⟩ ⟨([40]).toArray⟩).run Tryz.prog w=.ok (.string C1) w:=fun w=>by
  rw[hC1,run_string_add_sum w _ _ (by simp[ByteArray.size]<;>omega),ba_cat]
 obtain⟨C2,hC2⟩:∃ C:ByteArray,C=⟨((([102,108,111,97,116]:List UInt8)++[40])++t0).toArray⟩:=⟨_,rfl⟩;have hs2:∀ w,(Op.stringOp .add C1 ⟨(t0).toArray⟩).run Tryz.prog w=.ok (.string C2) w:=fun w=>by
  rw[hC1];rw[hC2,run_string_add_sum w _ _ (by simp[ByteArray.size]<;>omega),ba_cat]
 obtain⟨C3,hC3⟩:∃ C:ByteArray,C=⟨(((([102,108,111,97,116]:List UInt8)++[40])++t0)++[41]).toArray⟩:=⟨_,rfl⟩;have hs3:∀ w,(Op.stringOp .add C2 ⟨([41]).toArray⟩).run Tryz.prog w=.ok (.string C3) w:=fun w=>by
  rw[hC2];rw[hC3,run_string_add_sum w _ _ (by simp[ByteArray.size]<;>omega),ba_cat]
 rw[←hC3]at hE;have HE:=zh hE;clear hE hC1 hC2 hC3;generalize (⟨t0.toArray⟩:ByteArray)=T_t0 at *;go_in;go_upto_region 1 with (fail)
 generalize w.alloc (.cells #[.int .i64 21,.string ⟨x.str.toArray⟩,.int .i64 x.v.kind,.int .i64 x.v.num,.float .f64 x.v.flt,.string ⟨x.v.str.toArray⟩,qn,qi,.slice np x.names.length nc,.slice (some ⟨g,off,none⟩) 1 cap] 29)=W1 at *;have hLt:=lt_of_block hnew;have HS:Hid (∀ w',Below W1.heap.size W1 w'→w'.cell? ⟨w.heap.size,0,none⟩=some (.int .i64 21)∧w'.cell? ⟨g,off,none⟩=some k0∧w'.cell? ⟨g,off+1,none⟩=some k1∧w'.cell? ⟨g,off+2,none⟩=some k2∧w'.cell? ⟨g,off+3,none⟩=some k3∧w'.cell? ⟨g,off+4,none⟩=some k4∧w'.cell? ⟨g,off+5,none⟩=some k5∧w'.cell? ⟨g,off+6,none⟩=some k6∧w'.cell? ⟨g,off+7,none⟩=some k7∧w'.cell? ⟨g,off+8,none⟩=some k8∧w'.cell? ⟨g,off+9,none⟩=some k9):=zh (fun w' hb=>⟨(by rw[zc ((hb.block _ hLt).trans hnew)];rfl),(by have:=hc0 w' (hB.trans (hb.mono hB.size));simpa using this.1),(by have:=hc0 w' (hB.trans (hb.mono hB.size));simpa using this.2.1),(by have:=hc0 w' (hB.trans (hb.mono hB.size));simpa using this.2.2.1),(by have:=hc0 w' (hB.trans (hb.mono hB.size));simpa using this.2.2.2.1),(by have:=hc0 w' (hB.trans (hb.mono hB.size));simpa using this.2.2.2.2.1),(by have:=hc0 w' (hB.trans (hb.mono hB.size));simpa using this.2.2.2.2.2.1),(by have:=hc0 w' (hB.trans (hb.mono hB.size));simpa using this.2.2.2.2.2.2.1),(by have:=hc0 w' (hB.trans (hb.mono hB.size));simpa using this.2.2.2.2.2.2.2.1),(by have:=hc0 w' (hB.trans (hb.mono hB.size));simpa using this.2.2.2.2.2.2.2.2.1),(by have:=hc0 w' (hB.trans (hb.mono hB.size));simpa using this.2.2.2.2.2.2.2.2.2)⟩);have HC0:=zh (fun w' (hb:Below W1.heap.size W1 w')=>hT0 w' (hB.trans (hb.mono hB.size)));clear hc0 hT0 hF0 hl0 hm0;have hr0:Below W1.heap.size W1 W1:=Below.refl _ _;obtain⟨a0,a1,a9⟩:W1.cell? ⟨w.heap.size,0,none⟩=some (.int .i64 21)∧W1.cell? ⟨w.heap.size,1,none⟩=some (.string ⟨x.str.toArray⟩)∧W1.cell? ⟨w.heap.size,9,none⟩=some (.slice (some ⟨g,off,none⟩) 1 cap):=⟨by rw[zc hnew];rfl,by rw[zc hnew];rfl,by rw[zc hnew];rfl⟩;clear hnew hLt;go_wp2_with fail
 have hwr:IntKind.i64.wrap 1=1:=by decide
 refine wp_region_held_drew (S:=(fun w'=>w'.cell? ⟨w.heap.size,0,none⟩=some (.int .i64 21)∧w'.cell? ⟨g,off,none⟩=some k0∧w'.cell? ⟨g,off+1,none⟩=some k1∧w'.cell? ⟨g,off+2,none⟩=some k2∧w'.cell? ⟨g,off+3,none⟩=some k3∧w'.cell? ⟨g,off+4,none⟩=some k4∧w'.cell? ⟨g,off+5,none⟩=some k5∧w'.cell? ⟨g,off+6,none⟩=some k6∧w'.cell? ⟨g,off+7,none⟩=some k7∧w'.cell? ⟨g,off+8,none⟩=some k8∧w'.cell? ⟨g,off+9,none⟩=some k9)) (by kernel_rfl) (HS.out _ hr0.drew) (fun hHeld=>?_);refine wpAnyH_take (i:=1) (oi:=_) (v:=?v19) rfl (by kernel_rfl) (by kernel_rfl) (by kernel_rfl) (fun _ _ _ h=>h) (Or.inl ⟨by rfl,?hy19⟩) (by assumption) ?rest19
 case hy19=>(intro w0 hSw;(try dsimp only at hSw);go_simp;try with_reducible rfl)
 try simp only[Act.put,List.setIfInBounds_toArray]
 refine wpAnyH_take (i:=2) (oi:=_) (v:=?v20) rfl (by kernel_rfl) (by kernel_rfl) (by kernel_rfl) (fun _ _ _ h=>h) (Or.inl ⟨by rfl,?hy20⟩) (by assumption) ?rest20
 case hy20=>(intro w0 hSw;(try dsimp only at hSw);go_simp;try with_reducible rfl)
 try simp only[Act.put]
 refine wpAnyH_take (i:=3) (oi:=_) (v:=?v21) rfl (by kernel_rfl) (by kernel_rfl) (by kernel_rfl) (fun _ _ _ h=>h) (Or.inl ⟨by rfl,?hy21⟩) (by assumption) ?rest21
 case hy21=>(intro w0 hSw;(try dsimp only at hSw);go_simp;try with_reducible rfl)
 try simp only[Act.put]
 refine wpAnyH_take (i:=7) (oi:=_) (v:=?v22) rfl (by kernel_rfl) (by kernel_rfl) (by kernel_rfl) (fun _ _ _ h=>h) (Or.inl ⟨by rfl,?hy22⟩) (by assumption) ?rest22
 case hy22=>(intro w0 hSw;(try dsimp only at hSw);go_simp;try with_reducible rfl)
 try simp only[Act.put]
 refine wpAnyH_take (i:=8) (oi:=_) (v:=?v23) rfl (by kernel_rfl) (by kernel_rfl) (by kernel_rfl) (fun _ _ _ h=>h) (Or.inl ⟨by rfl,?hy23⟩) (by assumption) ?rest23
 case hy23=>(intro w0 hSw;(try dsimp only at hSw);go_simp;try with_reducible rfl)
 try simp only[Act.put]
 refine wpAnyH_take (i:=9) (oi:=_) (v:=?v24) rfl (by kernel_rfl) (by kernel_rfl) (by kernel_rfl) (fun _ _ _ h=>h) (Or.inl ⟨by rfl,?hy24⟩) (by assumption) ?rest24
 case hy24=>(intro w0 hSw;(try dsimp only at hSw);go_simp;try with_reducible rfl)
 try simp only[Act.put]
 refine wpAnyH_ready (rs:=[0,10]) (by kernel_rfl) (by simp) ?_;refine AllReadyH.cons (o:=_) rfl (fun K2 hK2=>?_) (AllReadyH.cons (o:=_) rfl (fun K2 hK2=>?_) AllReadyH.nil)
 ·go_simp
  have hA1:Below W1.heap.size W1 (W1.alloc (.cells #[.string ⟨#[108,101,110]⟩,.string ⟨#[102,108,111,97,116]⟩,.string ⟨#[105,110,116]⟩,.string ⟨#[115,116,114]⟩] 9)).drew:=(hr0.alloc (Nat.le_refl _) _).drew;refine hK2.out _ _ (HS.out _ hA1) (fun hHeld=>?_);clear hK2 K2;try simp only[Act.put,List.setIfInBounds_toArray,List.set_cons_zero,List.set_cons_succ]
  clear hHeld;have cG:(W1.alloc (.cells #[.string ⟨#[108,101,110]⟩,.string ⟨#[102,108,111,97,116]⟩,.string ⟨#[105,110,116]⟩,.string ⟨#[115,116,114]⟩] 9)).cell? ⟨W1.heap.size,1,none⟩=some (.string ⟨#[102,108,111,97,116]⟩):=cell_row (heap_alloc_new W1 _) rfl;refine wpAnyH_weak (S':=(fun w'=>(w'.cell? ⟨w.heap.size,0,none⟩=some (.int .i64 21)∧w'.cell? ⟨g,off,none⟩=some k0∧w'.cell? ⟨g,off+1,none⟩=some k1∧w'.cell? ⟨g,off+2,none⟩=some k2∧w'.cell? ⟨g,off+3,none⟩=some k3∧w'.cell? ⟨g,off+4,none⟩=some k4∧w'.cell? ⟨g,off+5,none⟩=some k5∧w'.cell? ⟨g,off+6,none⟩=some k6∧w'.cell? ⟨g,off+7,none⟩=some k7∧w'.cell? ⟨g,off+8,none⟩=some k8∧w'.cell? ⟨g,off+9,none⟩=some k9)∧w'.cell? ⟨W1.heap.size,1,none⟩=some (.string ⟨#[102,108,111,97,116]⟩))) (fun w h=>h.1) _ _ _ _ ?_;have hHeld:(fun w'=>(w'.cell? ⟨w.heap.size,0,none⟩=some (.int .i64 21)∧w'.cell? ⟨g,off,none⟩=some k0∧w'.cell? ⟨g,off+1,none⟩=some k1∧w'.cell? ⟨g,off+2,none⟩=some k2∧w'.cell? ⟨g,off+3,none⟩=some k3∧w'.cell? ⟨g,off+4,none⟩=some k4∧w'.cell? ⟨g,off+5,none⟩=some k5∧w'.cell? ⟨g,off+6,none⟩=some k6∧w'.cell? ⟨g,off+7,none⟩=some k7∧w'.cell? ⟨g,off+8,none⟩=some k8∧w'.cell? ⟨g,off+9,none⟩=some k9)∧w'.cell? ⟨W1.heap.size,1,none⟩=some (.string ⟨#[102,108,111,97,116]⟩)) (W1.alloc (.cells #[.string ⟨#[108,101,110]⟩,.string ⟨#[102,108,111,97,116]⟩,.string ⟨#[105,110,116]⟩,.string ⟨#[115,116,114]⟩] 9)).drew:=⟨HS.out _ hA1,cG⟩;refine wpAnyH_take (i:=4) (oi:=_) (v:=?v25) rfl (by kernel_rfl) (by kernel_rfl) (by kernel_rfl) (fun _ _ _ h=>h) (Or.inl ⟨by rfl,?hy25⟩) (by assumption) ?rest25
  case hy25=>(intro w0 hSw;(try dsimp only at hSw);go_simp;try with_reducible rfl)
  try simp only[Act.put,List.setIfInBounds_toArray]
  refine wpAnyH_take (i:=5) (oi:=_) (v:=?v26) rfl (by kernel_rfl) (by kernel_rfl) (by kernel_rfl) (fun _ _ _ h=>h) (Or.inl ⟨by rfl,?hy26⟩) (by assumption) ?rest26
  case hy26=>(intro w0 hSw;(try dsimp only at hSw);go_simp;try with_reducible rfl)
  try simp only[Act.put]
  refine wpAnyH_take (i:=6) (oi:=_) (v:=?v27) rfl (by kernel_rfl) (by kernel_rfl) (by kernel_rfl) (fun _ _ _ h=>h) (Or.inl ⟨by rfl,?hy27⟩) (by assumption) ?rest27
  case hy27=>(intro w0 hSw;(try dsimp only at hSw);go_simp;try with_reducible rfl)
  try simp only[Act.put]
  refine wpAnyH_ready (rs:=[10]) (by kernel_rfl) (by simp) ?_;refine AllReadyH.cons (o:=_) rfl (fun K hK=>?_) AllReadyH.nil;go_simp
  go_at_call 14
  (with_reducible refine(HC0.out _ hA1).mono ?_);rintro e v0 ⟨rfl,hz0⟩
  have hb0:Below W1.heap.size W1 v0:=below_tr' hA1 hz0;refine hK.out _ _ (⟨HS.out _ hb0,(hz0.cell (p:=⟨W1.heap.size,1,none⟩) (by simp)).trans cG⟩) (fun hHeld=>?_);clear hK K;try simp only[Act.put,List.setIfInBounds_toArray,List.set_cons_zero,List.set_cons_succ]
  refine wpAnyH_take (i:=11) (oi:=_) (v:=?v28) rfl (by kernel_rfl) (by kernel_rfl) (by kernel_rfl) (fun _ _ _ h=>h) (Or.inl ⟨by rfl,?hy28⟩) (by assumption) ?rest28
  case hy28=>(intro w0 hSw;(try dsimp only at hSw);go_simp;try with_reducible rfl)
  try simp only[Act.put,List.setIfInBounds_toArray]
  refine wpAnyH_take (i:=12) (oi:=_) (v:=?v29) rfl (by kernel_rfl) (by kernel_rfl) (by kernel_rfl) (fun _ _ _ h=>h) (Or.inl ⟨by rfl,?hy29⟩) (by assumption) ?rest29
  case hy29=>(intro w0 hSw;(try dsimp only at hSw);go_simp;try with_reducible rfl)
  try simp only[Act.put]
  refine wpAnyH_take (i:=13) (oi:=_) (v:=?v30) rfl (by kernel_rfl) (by kernel_rfl) (by kernel_rfl) (fun _ _ _ h=>h) (Or.inl ⟨by rfl,?hy30⟩) (by assumption) ?rest30
  case hy30=>(intro w0 hSw;(try dsimp only at hSw);go_simp;try with_reducible rfl)
  try simp only[Act.put]
  refine wpAnyH_done (by kernel_rfl) ?_ _;go_wp2_with fail
  go_ret;exact⟨ret_val (by rw[HE.out]<;>rfl),hB.trans (hb0.mono hB.size)⟩
 ·go_simp
  go_at_call 14
  (with_reducible refine(HC0.out _ hr0.drew).mono ?_);rintro e v0 ⟨rfl,hz0⟩
  have hb0:Below W1.heap.size W1 v0:=below_tr' hr0.drew hz0;refine hK2.out _ _ (HS.out _ hb0) (fun hHeld=>?_);clear hK2 K2;try simp only[Act.put,List.setIfInBounds_toArray,List.set_cons_zero,List.set_cons_succ]
  have hA2:Below W1.heap.size W1 (v0.alloc (.cells #[.string ⟨#[108,101,110]⟩,.string ⟨#[102,108,111,97,116]⟩,.string ⟨#[105,110,116]⟩,.string ⟨#[115,116,114]⟩] 9)):=hb0.alloc hb0.size _;refine wpAnyH_ready (rs:=[0]) (by kernel_rfl) (by simp) ?_;refine AllReadyH.cons (o:=_) rfl (fun K hK=>?_) AllReadyH.nil;go_simp
  refine hK.out _ _ (HS.out _ hA2) (fun hHeld=>?_);clear hK K;try simp only[Act.put,List.setIfInBounds_toArray,List.set_cons_zero,List.set_cons_succ]
  clear hHeld;have cG:(v0.alloc (.cells #[.string ⟨#[108,101,110]⟩,.string ⟨#[102,108,111,97,116]⟩,.string ⟨#[105,110,116]⟩,.string ⟨#[115,116,114]⟩] 9)).cell? ⟨v0.heap.size,1,none⟩=some (.string ⟨#[102,108,111,97,116]⟩):=cell_row (heap_alloc_new v0 _) rfl;refine wpAnyH_weak (S':=(fun w'=>(w'.cell? ⟨w.heap.size,0,none⟩=some (.int .i64 21)∧w'.cell? ⟨g,off,none⟩=some k0∧w'.cell? ⟨g,off+1,none⟩=some k1∧w'.cell? ⟨g,off+2,none⟩=some k2∧w'.cell? ⟨g,off+3,none⟩=some k3∧w'.cell? ⟨g,off+4,none⟩=some k4∧w'.cell? ⟨g,off+5,none⟩=some k5∧w'.cell? ⟨g,off+6,none⟩=some k6∧w'.cell? ⟨g,off+7,none⟩=some k7∧w'.cell? ⟨g,off+8,none⟩=some k8∧w'.cell? ⟨g,off+9,none⟩=some k9)∧w'.cell? ⟨v0.heap.size,1,none⟩=some (.string ⟨#[102,108,111,97,116]⟩))) (fun w h=>h.1) _ _ _ _ ?_;have hHeld:(fun w'=>(w'.cell? ⟨w.heap.size,0,none⟩=some (.int .i64 21)∧w'.cell? ⟨g,off,none⟩=some k0∧w'.cell? ⟨g,off+1,none⟩=some k1∧w'.cell? ⟨g,off+2,none⟩=some k2∧w'.cell? ⟨g,off+3,none⟩=some k3∧w'.cell? ⟨g,off+4,none⟩=some k4∧w'.cell? ⟨g,off+5,none⟩=some k5∧w'.cell? ⟨g,off+6,none⟩=some k6∧w'.cell? ⟨g,off+7,none⟩=some k7∧w'.cell? ⟨g,off+8,none⟩=some k8∧w'.cell? ⟨g,off+9,none⟩=some k9)∧w'.cell? ⟨v0.heap.size,1,none⟩=some (.string ⟨#[102,108,111,97,116]⟩)) (v0.alloc (.cells #[.string ⟨#[108,101,110]⟩,.string ⟨#[102,108,111,97,116]⟩,.string ⟨#[105,110,116]⟩,.string ⟨#[115,116,114]⟩] 9)):=⟨HS.out _ hA2,cG⟩;refine wpAnyH_take (i:=4) (oi:=_) (v:=?v31) rfl (by kernel_rfl) (by kernel_rfl) (by kernel_rfl) (fun _ _ _ h=>h) (Or.inl ⟨by rfl,?hy31⟩) (by assumption) ?rest31
  case hy31=>(intro w0 hSw;(try dsimp only at hSw);go_simp;try with_reducible rfl)
  try simp only[Act.put,List.setIfInBounds_toArray]
  refine wpAnyH_take (i:=5) (oi:=_) (v:=?v32) rfl (by kernel_rfl) (by kernel_rfl) (by kernel_rfl) (fun _ _ _ h=>h) (Or.inl ⟨by rfl,?hy32⟩) (by assumption) ?rest32
  case hy32=>(intro w0 hSw;(try dsimp only at hSw);go_simp;try with_reducible rfl)
  try simp only[Act.put]
  refine wpAnyH_take (i:=6) (oi:=_) (v:=?v33) rfl (by kernel_rfl) (by kernel_rfl) (by kernel_rfl) (fun _ _ _ h=>h) (Or.inl ⟨by rfl,?hy33⟩) (by assumption) ?rest33
  case hy33=>(intro w0 hSw;(try dsimp only at hSw);go_simp;try with_reducible rfl)
  try simp only[Act.put]
  refine wpAnyH_take (i:=11) (oi:=_) (v:=?v34) rfl (by kernel_rfl) (by kernel_rfl) (by kernel_rfl) (fun _ _ _ h=>h) (Or.inl ⟨by rfl,?hy34⟩) (by assumption) ?rest34
  case hy34=>(intro w0 hSw;(try dsimp only at hSw);go_simp;try with_reducible rfl)
  try simp only[Act.put]
  refine wpAnyH_take (i:=12) (oi:=_) (v:=?v35) rfl (by kernel_rfl) (by kernel_rfl) (by kernel_rfl) (fun _ _ _ h=>h) (Or.inl ⟨by rfl,?hy35⟩) (by assumption) ?rest35
  case hy35=>(intro w0 hSw;(try dsimp only at hSw);go_simp;try with_reducible rfl)
  try simp only[Act.put]
  refine wpAnyH_take (i:=13) (oi:=_) (v:=?v36) rfl (by kernel_rfl) (by kernel_rfl) (by kernel_rfl) (fun _ _ _ h=>h) (Or.inl ⟨by rfl,?hy36⟩) (by assumption) ?rest36
  case hy36=>(intro w0 hSw;(try dsimp only at hSw);go_simp;try with_reducible rfl)
  try simp only[Act.put]
  refine wpAnyH_done (by kernel_rfl) ?_ _;go_wp2_with fail
  go_ret;exact⟨ret_val (by rw[HE.out]<;>rfl),hB.trans (hA2.mono hB.size)⟩
theorem text8_22 (d:Nat) (IH:TE d) (x:ET) (cs:Array Value) (far:Nat) (w:World) (h:ExAt' w (d+1) x cs) (hr:rightE x far=true) (hi:inE x) (hz:szE x≤200) (k:x.kind=22) :
  Calls Tryz.prog 14 #[.agg cs] w (Gives (.string ⟨(textE x).toArray⟩) w):=by
 have hn:x.kids.length=1:=(right_parts hr).1 1 (by rw[k];rfl);have hsl:=str_len hr;obtain⟨qn,qi,np,nc,p,cap,rfl,_,_,_,hkid⟩:=open8 IH h hr hi hz;obtain⟨g,off,k0,k1,k2,k3,k4,k5,k6,k7,k8,k9,hp0,hc0,hT0,hF0,hl0,hm0⟩:=hkid 0 (by omega);subst hp0;have hE:textE x=([105,110,116]:List UInt8)++[40]++textE (x.kids.getD 0 noET)++[41]:=by
  rw[textE_c (by omega) (by omega) hn];rw[k];obtain⟨a,ha⟩:=len1 hn;rw[ha]<;>simp[textEL,allT,callsB]
 replace hE:(⟨(textE x).toArray⟩:ByteArray)=⟨(([105,110,116]:List UInt8)++[40]++textE (x.kids.getD 0 noET)++[41]).toArray⟩:=by rw[hE]
 generalize textE (x.kids.getD 0 noET)=t0 at *;clear h hr hi hz hkid;rw[k,hn];have hB:Below w.heap.size w (w.alloc (.cells #[.int .i64 22,.string ⟨x.str.toArray⟩,.int .i64 x.v.kind,.int .i64 x.v.num,.float .f64 x.v.flt,.string ⟨x.v.str.toArray⟩,qn,qi,.slice np x.names.length nc,.slice (some ⟨g,off,none⟩) 1 cap] 29)):=(Below.refl _ _).alloc (Nat.le_refl _) _;have hnew:(w.alloc (.cells #[.int .i64 22,.string ⟨x.str.toArray⟩,.int .i64 x.v.kind,.int .i64 x.v.num,.float .f64 x.v.flt,.string ⟨x.v.str.toArray⟩,qn,qi,.slice np x.names.length nc,.slice (some ⟨g,off,none⟩) 1 cap] 29)).heap[w.heap.size]?=some (.cells #[.int .i64 22,.string ⟨x.str.toArray⟩,.int .i64 x.v.kind,.int .i64 x.v.num,.float .f64 x.v.flt,.string ⟨x.v.str.toArray⟩,qn,qi,.slice np x.names.length nc,.slice (some ⟨g,off,none⟩) 1 cap] 29 (0,0)):=heap_alloc_new w _;obtain⟨C1,hC1⟩:∃ C:ByteArray,C=⟨(([105,110,116]:List UInt8)++[40]).toArray⟩:=⟨_,rfl⟩;have hs1:∀ w,(Op.stringOp .add ⟨(([105,110,116]:List UInt8)).toArray⟩ ⟨([40]).toArray⟩).run Tryz.prog w=.ok (.string C1) w:=fun w=>by
  rw[hC1,run_string_add_sum w _ _ (by simp[ByteArray.size]<;>omega),ba_cat]
 obtain⟨C2,hC2⟩:∃ C:ByteArray,C=⟨((([105,110,116]:List UInt8)++[40])++t0).toArray⟩:=⟨_,rfl⟩;have hs2:∀ w,(Op.stringOp .add C1 ⟨(t0).toArray⟩).run Tryz.prog w=.ok (.string C2) w:=fun w=>by
  rw[hC1];rw[hC2,run_string_add_sum w _ _ (by simp[ByteArray.size]<;>omega),ba_cat]
 obtain⟨C3,hC3⟩:∃ C:ByteArray,C=⟨(((([105,110,116]:List UInt8)++[40])++t0)++[41]).toArray⟩:=⟨_,rfl⟩;have hs3:∀ w,(Op.stringOp .add C2 ⟨([41]).toArray⟩).run Tryz.prog w=.ok (.string C3) w:=fun w=>by
  rw[hC2];rw[hC3,run_string_add_sum w _ _ (by simp[ByteArray.size]<;>omega),ba_cat]
 rw[←hC3]at hE;have HE:=zh hE;clear hE hC1 hC2 hC3;generalize (⟨t0.toArray⟩:ByteArray)=T_t0 at *;go_in;go_upto_region 1 with (fail)
 generalize w.alloc (.cells #[.int .i64 22,.string ⟨x.str.toArray⟩,.int .i64 x.v.kind,.int .i64 x.v.num,.float .f64 x.v.flt,.string ⟨x.v.str.toArray⟩,qn,qi,.slice np x.names.length nc,.slice (some ⟨g,off,none⟩) 1 cap] 29)=W1 at *;have hLt:=lt_of_block hnew;have HS:Hid (∀ w',Below W1.heap.size W1 w'→w'.cell? ⟨w.heap.size,0,none⟩=some (.int .i64 22)∧w'.cell? ⟨g,off,none⟩=some k0∧w'.cell? ⟨g,off+1,none⟩=some k1∧w'.cell? ⟨g,off+2,none⟩=some k2∧w'.cell? ⟨g,off+3,none⟩=some k3∧w'.cell? ⟨g,off+4,none⟩=some k4∧w'.cell? ⟨g,off+5,none⟩=some k5∧w'.cell? ⟨g,off+6,none⟩=some k6∧w'.cell? ⟨g,off+7,none⟩=some k7∧w'.cell? ⟨g,off+8,none⟩=some k8∧w'.cell? ⟨g,off+9,none⟩=some k9):=zh (fun w' hb=>⟨(by rw[zc ((hb.block _ hLt).trans hnew)];rfl),(by have:=hc0 w' (hB.trans (hb.mono hB.size));simpa using this.1),(by have:=hc0 w' (hB.trans (hb.mono hB.size));simpa using this.2.1),(by have:=hc0 w' (hB.trans (hb.mono hB.size));simpa using this.2.2.1),(by have:=hc0 w' (hB.trans (hb.mono hB.size));simpa using this.2.2.2.1),(by have:=hc0 w' (hB.trans (hb.mono hB.size));simpa using this.2.2.2.2.1),(by have:=hc0 w' (hB.trans (hb.mono hB.size));simpa using this.2.2.2.2.2.1),(by have:=hc0 w' (hB.trans (hb.mono hB.size));simpa using this.2.2.2.2.2.2.1),(by have:=hc0 w' (hB.trans (hb.mono hB.size));simpa using this.2.2.2.2.2.2.2.1),(by have:=hc0 w' (hB.trans (hb.mono hB.size));simpa using this.2.2.2.2.2.2.2.2.1),(by have:=hc0 w' (hB.trans (hb.mono hB.size));simpa using this.2.2.2.2.2.2.2.2.2)⟩);have HC0:=zh (fun w' (hb:Below W1.heap.size W1 w')=>hT0 w' (hB.trans (hb.mono hB.size)));clear hc0 hT0 hF0 hl0 hm0;have hr0:Below W1.heap.size W1 W1:=Below.refl _ _;obtain⟨a0,a1,a9⟩:W1.cell? ⟨w.heap.size,0,none⟩=some (.int .i64 22)∧W1.cell? ⟨w.heap.size,1,none⟩=some (.string ⟨x.str.toArray⟩)∧W1.cell? ⟨w.heap.size,9,none⟩=some (.slice (some ⟨g,off,none⟩) 1 cap):=⟨by rw[zc hnew];rfl,by rw[zc hnew];rfl,by rw[zc hnew];rfl⟩;clear hnew hLt;go_wp2_with fail
 have hwr:IntKind.i64.wrap 2=2:=by decide
 refine wp_region_held_drew (S:=(fun w'=>w'.cell? ⟨w.heap.size,0,none⟩=some (.int .i64 22)∧w'.cell? ⟨g,off,none⟩=some k0∧w'.cell? ⟨g,off+1,none⟩=some k1∧w'.cell? ⟨g,off+2,none⟩=some k2∧w'.cell? ⟨g,off+3,none⟩=some k3∧w'.cell? ⟨g,off+4,none⟩=some k4∧w'.cell? ⟨g,off+5,none⟩=some k5∧w'.cell? ⟨g,off+6,none⟩=some k6∧w'.cell? ⟨g,off+7,none⟩=some k7∧w'.cell? ⟨g,off+8,none⟩=some k8∧w'.cell? ⟨g,off+9,none⟩=some k9)) (by kernel_rfl) (HS.out _ hr0.drew) (fun hHeld=>?_);refine wpAnyH_take (i:=1) (oi:=_) (v:=?v37) rfl (by kernel_rfl) (by kernel_rfl) (by kernel_rfl) (fun _ _ _ h=>h) (Or.inl ⟨by rfl,?hy37⟩) (by assumption) ?rest37
 case hy37=>(intro w0 hSw;(try dsimp only at hSw);go_simp;try with_reducible rfl)
 try simp only[Act.put,List.setIfInBounds_toArray]
 refine wpAnyH_take (i:=2) (oi:=_) (v:=?v38) rfl (by kernel_rfl) (by kernel_rfl) (by kernel_rfl) (fun _ _ _ h=>h) (Or.inl ⟨by rfl,?hy38⟩) (by assumption) ?rest38
 case hy38=>(intro w0 hSw;(try dsimp only at hSw);go_simp;try with_reducible rfl)
 try simp only[Act.put]
 refine wpAnyH_take (i:=3) (oi:=_) (v:=?v39) rfl (by kernel_rfl) (by kernel_rfl) (by kernel_rfl) (fun _ _ _ h=>h) (Or.inl ⟨by rfl,?hy39⟩) (by assumption) ?rest39
 case hy39=>(intro w0 hSw;(try dsimp only at hSw);go_simp;try with_reducible rfl)
 try simp only[Act.put]
 refine wpAnyH_take (i:=7) (oi:=_) (v:=?v40) rfl (by kernel_rfl) (by kernel_rfl) (by kernel_rfl) (fun _ _ _ h=>h) (Or.inl ⟨by rfl,?hy40⟩) (by assumption) ?rest40
 case hy40=>(intro w0 hSw;(try dsimp only at hSw);go_simp;try with_reducible rfl)
 try simp only[Act.put]
 refine wpAnyH_take (i:=8) (oi:=_) (v:=?v41) rfl (by kernel_rfl) (by kernel_rfl) (by kernel_rfl) (fun _ _ _ h=>h) (Or.inl ⟨by rfl,?hy41⟩) (by assumption) ?rest41
 case hy41=>(intro w0 hSw;(try dsimp only at hSw);go_simp;try with_reducible rfl)
 try simp only[Act.put]
 refine wpAnyH_take (i:=9) (oi:=_) (v:=?v42) rfl (by kernel_rfl) (by kernel_rfl) (by kernel_rfl) (fun _ _ _ h=>h) (Or.inl ⟨by rfl,?hy42⟩) (by assumption) ?rest42
 case hy42=>(intro w0 hSw;(try dsimp only at hSw);go_simp;try with_reducible rfl)
 try simp only[Act.put]
 refine wpAnyH_ready (rs:=[0,10]) (by kernel_rfl) (by simp) ?_;refine AllReadyH.cons (o:=_) rfl (fun K2 hK2=>?_) (AllReadyH.cons (o:=_) rfl (fun K2 hK2=>?_) AllReadyH.nil)
 ·go_simp
  have hA1:Below W1.heap.size W1 (W1.alloc (.cells #[.string ⟨#[108,101,110]⟩,.string ⟨#[102,108,111,97,116]⟩,.string ⟨#[105,110,116]⟩,.string ⟨#[115,116,114]⟩] 9)).drew:=(hr0.alloc (Nat.le_refl _) _).drew;refine hK2.out _ _ (HS.out _ hA1) (fun hHeld=>?_);clear hK2 K2;try simp only[Act.put,List.setIfInBounds_toArray,List.set_cons_zero,List.set_cons_succ]
  clear hHeld;have cG:(W1.alloc (.cells #[.string ⟨#[108,101,110]⟩,.string ⟨#[102,108,111,97,116]⟩,.string ⟨#[105,110,116]⟩,.string ⟨#[115,116,114]⟩] 9)).cell? ⟨W1.heap.size,2,none⟩=some (.string ⟨#[105,110,116]⟩):=cell_row (heap_alloc_new W1 _) rfl;refine wpAnyH_weak (S':=(fun w'=>(w'.cell? ⟨w.heap.size,0,none⟩=some (.int .i64 22)∧w'.cell? ⟨g,off,none⟩=some k0∧w'.cell? ⟨g,off+1,none⟩=some k1∧w'.cell? ⟨g,off+2,none⟩=some k2∧w'.cell? ⟨g,off+3,none⟩=some k3∧w'.cell? ⟨g,off+4,none⟩=some k4∧w'.cell? ⟨g,off+5,none⟩=some k5∧w'.cell? ⟨g,off+6,none⟩=some k6∧w'.cell? ⟨g,off+7,none⟩=some k7∧w'.cell? ⟨g,off+8,none⟩=some k8∧w'.cell? ⟨g,off+9,none⟩=some k9)∧w'.cell? ⟨W1.heap.size,2,none⟩=some (.string ⟨#[105,110,116]⟩))) (fun w h=>h.1) _ _ _ _ ?_;have hHeld:(fun w'=>(w'.cell? ⟨w.heap.size,0,none⟩=some (.int .i64 22)∧w'.cell? ⟨g,off,none⟩=some k0∧w'.cell? ⟨g,off+1,none⟩=some k1∧w'.cell? ⟨g,off+2,none⟩=some k2∧w'.cell? ⟨g,off+3,none⟩=some k3∧w'.cell? ⟨g,off+4,none⟩=some k4∧w'.cell? ⟨g,off+5,none⟩=some k5∧w'.cell? ⟨g,off+6,none⟩=some k6∧w'.cell? ⟨g,off+7,none⟩=some k7∧w'.cell? ⟨g,off+8,none⟩=some k8∧w'.cell? ⟨g,off+9,none⟩=some k9)∧w'.cell? ⟨W1.heap.size,2,none⟩=some (.string ⟨#[105,110,116]⟩)) (W1.alloc (.cells #[.string ⟨#[108,101,110]⟩,.string ⟨#[102,108,111,97,116]⟩,.string ⟨#[105,110,116]⟩,.string ⟨#[115,116,114]⟩] 9)).drew:=⟨HS.out _ hA1,cG⟩;refine wpAnyH_take (i:=4) (oi:=_) (v:=?v43) rfl (by kernel_rfl) (by kernel_rfl) (by kernel_rfl) (fun _ _ _ h=>h) (Or.inl ⟨by rfl,?hy43⟩) (by assumption) ?rest43
  case hy43=>(intro w0 hSw;(try dsimp only at hSw);go_simp;try with_reducible rfl)
  try simp only[Act.put,List.setIfInBounds_toArray]
  refine wpAnyH_take (i:=5) (oi:=_) (v:=?v44) rfl (by kernel_rfl) (by kernel_rfl) (by kernel_rfl) (fun _ _ _ h=>h) (Or.inl ⟨by rfl,?hy44⟩) (by assumption) ?rest44
  case hy44=>(intro w0 hSw;(try dsimp only at hSw);go_simp;try with_reducible rfl)
  try simp only[Act.put]
  refine wpAnyH_take (i:=6) (oi:=_) (v:=?v45) rfl (by kernel_rfl) (by kernel_rfl) (by kernel_rfl) (fun _ _ _ h=>h) (Or.inl ⟨by rfl,?hy45⟩) (by assumption) ?rest45
  case hy45=>(intro w0 hSw;(try dsimp only at hSw);go_simp;try with_reducible rfl)
  try simp only[Act.put]
  refine wpAnyH_ready (rs:=[10]) (by kernel_rfl) (by simp) ?_;refine AllReadyH.cons (o:=_) rfl (fun K hK=>?_) AllReadyH.nil;go_simp
  go_at_call 14
  (with_reducible refine(HC0.out _ hA1).mono ?_);rintro e v0 ⟨rfl,hz0⟩
  have hb0:Below W1.heap.size W1 v0:=below_tr' hA1 hz0;refine hK.out _ _ (⟨HS.out _ hb0,(hz0.cell (p:=⟨W1.heap.size,2,none⟩) (by simp)).trans cG⟩) (fun hHeld=>?_);clear hK K;try simp only[Act.put,List.setIfInBounds_toArray,List.set_cons_zero,List.set_cons_succ]
  refine wpAnyH_take (i:=11) (oi:=_) (v:=?v46) rfl (by kernel_rfl) (by kernel_rfl) (by kernel_rfl) (fun _ _ _ h=>h) (Or.inl ⟨by rfl,?hy46⟩) (by assumption) ?rest46
  case hy46=>(intro w0 hSw;(try dsimp only at hSw);go_simp;try with_reducible rfl)
  try simp only[Act.put,List.setIfInBounds_toArray]
  refine wpAnyH_take (i:=12) (oi:=_) (v:=?v47) rfl (by kernel_rfl) (by kernel_rfl) (by kernel_rfl) (fun _ _ _ h=>h) (Or.inl ⟨by rfl,?hy47⟩) (by assumption) ?rest47
  case hy47=>(intro w0 hSw;(try dsimp only at hSw);go_simp;try with_reducible rfl)
  try simp only[Act.put]
  refine wpAnyH_take (i:=13) (oi:=_) (v:=?v48) rfl (by kernel_rfl) (by kernel_rfl) (by kernel_rfl) (fun _ _ _ h=>h) (Or.inl ⟨by rfl,?hy48⟩) (by assumption) ?rest48
  case hy48=>(intro w0 hSw;(try dsimp only at hSw);go_simp;try with_reducible rfl)
  try simp only[Act.put]
  refine wpAnyH_done (by kernel_rfl) ?_ _;go_wp2_with fail
  go_ret;exact⟨ret_val (by rw[HE.out]<;>rfl),hB.trans (hb0.mono hB.size)⟩
 ·go_simp
  go_at_call 14
  (with_reducible refine(HC0.out _ hr0.drew).mono ?_);rintro e v0 ⟨rfl,hz0⟩
  have hb0:Below W1.heap.size W1 v0:=below_tr' hr0.drew hz0;refine hK2.out _ _ (HS.out _ hb0) (fun hHeld=>?_);clear hK2 K2;try simp only[Act.put,List.setIfInBounds_toArray,List.set_cons_zero,List.set_cons_succ]
  have hA2:Below W1.heap.size W1 (v0.alloc (.cells #[.string ⟨#[108,101,110]⟩,.string ⟨#[102,108,111,97,116]⟩,.string ⟨#[105,110,116]⟩,.string ⟨#[115,116,114]⟩] 9)):=hb0.alloc hb0.size _;refine wpAnyH_ready (rs:=[0]) (by kernel_rfl) (by simp) ?_;refine AllReadyH.cons (o:=_) rfl (fun K hK=>?_) AllReadyH.nil;go_simp
  refine hK.out _ _ (HS.out _ hA2) (fun hHeld=>?_);clear hK K;try simp only[Act.put,List.setIfInBounds_toArray,List.set_cons_zero,List.set_cons_succ]
  clear hHeld;have cG:(v0.alloc (.cells #[.string ⟨#[108,101,110]⟩,.string ⟨#[102,108,111,97,116]⟩,.string ⟨#[105,110,116]⟩,.string ⟨#[115,116,114]⟩] 9)).cell? ⟨v0.heap.size,2,none⟩=some (.string ⟨#[105,110,116]⟩):=cell_row (heap_alloc_new v0 _) rfl;refine wpAnyH_weak (S':=(fun w'=>(w'.cell? ⟨w.heap.size,0,none⟩=some (.int .i64 22)∧w'.cell? ⟨g,off,none⟩=some k0∧w'.cell? ⟨g,off+1,none⟩=some k1∧w'.cell? ⟨g,off+2,none⟩=some k2∧w'.cell? ⟨g,off+3,none⟩=some k3∧w'.cell? ⟨g,off+4,none⟩=some k4∧w'.cell? ⟨g,off+5,none⟩=some k5∧w'.cell? ⟨g,off+6,none⟩=some k6∧w'.cell? ⟨g,off+7,none⟩=some k7∧w'.cell? ⟨g,off+8,none⟩=some k8∧w'.cell? ⟨g,off+9,none⟩=some k9)∧w'.cell? ⟨v0.heap.size,2,none⟩=some (.string ⟨#[105,110,116]⟩))) (fun w h=>h.1) _ _ _ _ ?_;have hHeld:(fun w'=>(w'.cell? ⟨w.heap.size,0,none⟩=some (.int .i64 22)∧w'.cell? ⟨g,off,none⟩=some k0∧w'.cell? ⟨g,off+1,none⟩=some k1∧w'.cell? ⟨g,off+2,none⟩=some k2∧w'.cell? ⟨g,off+3,none⟩=some k3∧w'.cell? ⟨g,off+4,none⟩=some k4∧w'.cell? ⟨g,off+5,none⟩=some k5∧w'.cell? ⟨g,off+6,none⟩=some k6∧w'.cell? ⟨g,off+7,none⟩=some k7∧w'.cell? ⟨g,off+8,none⟩=some k8∧w'.cell? ⟨g,off+9,none⟩=some k9)∧w'.cell? ⟨v0.heap.size,2,none⟩=some (.string ⟨#[105,110,116]⟩)) (v0.alloc (.cells #[.string ⟨#[108,101,110]⟩,.string ⟨#[102,108,111,97,116]⟩,.string ⟨#[105,110,116]⟩,.string ⟨#[115,116,114]⟩] 9)):=⟨HS.out _ hA2,cG⟩;refine wpAnyH_take (i:=4) (oi:=_) (v:=?v49) rfl (by kernel_rfl) (by kernel_rfl) (by kernel_rfl) (fun _ _ _ h=>h) (Or.inl ⟨by rfl,?hy49⟩) (by assumption) ?rest49
  case hy49=>(intro w0 hSw;(try dsimp only at hSw);go_simp;try with_reducible rfl)
  try simp only[Act.put,List.setIfInBounds_toArray]
  refine wpAnyH_take (i:=5) (oi:=_) (v:=?v50) rfl (by kernel_rfl) (by kernel_rfl) (by kernel_rfl) (fun _ _ _ h=>h) (Or.inl ⟨by rfl,?hy50⟩) (by assumption) ?rest50
  case hy50=>(intro w0 hSw;(try dsimp only at hSw);go_simp;try with_reducible rfl)
  try simp only[Act.put]
  refine wpAnyH_take (i:=6) (oi:=_) (v:=?v51) rfl (by kernel_rfl) (by kernel_rfl) (by kernel_rfl) (fun _ _ _ h=>h) (Or.inl ⟨by rfl,?hy51⟩) (by assumption) ?rest51
  case hy51=>(intro w0 hSw;(try dsimp only at hSw);go_simp;try with_reducible rfl)
  try simp only[Act.put]
  refine wpAnyH_take (i:=11) (oi:=_) (v:=?v52) rfl (by kernel_rfl) (by kernel_rfl) (by kernel_rfl) (fun _ _ _ h=>h) (Or.inl ⟨by rfl,?hy52⟩) (by assumption) ?rest52
  case hy52=>(intro w0 hSw;(try dsimp only at hSw);go_simp;try with_reducible rfl)
  try simp only[Act.put]
  refine wpAnyH_take (i:=12) (oi:=_) (v:=?v53) rfl (by kernel_rfl) (by kernel_rfl) (by kernel_rfl) (fun _ _ _ h=>h) (Or.inl ⟨by rfl,?hy53⟩) (by assumption) ?rest53
  case hy53=>(intro w0 hSw;(try dsimp only at hSw);go_simp;try with_reducible rfl)
  try simp only[Act.put]
  refine wpAnyH_take (i:=13) (oi:=_) (v:=?v54) rfl (by kernel_rfl) (by kernel_rfl) (by kernel_rfl) (fun _ _ _ h=>h) (Or.inl ⟨by rfl,?hy54⟩) (by assumption) ?rest54
  case hy54=>(intro w0 hSw;(try dsimp only at hSw);go_simp;try with_reducible rfl)
  try simp only[Act.put]
  refine wpAnyH_done (by kernel_rfl) ?_ _;go_wp2_with fail
  go_ret;exact⟨ret_val (by rw[HE.out]<;>rfl),hB.trans (hA2.mono hB.size)⟩
theorem text8_23 (d:Nat) (IH:TE d) (x:ET) (cs:Array Value) (far:Nat) (w:World) (h:ExAt' w (d+1) x cs) (hr:rightE x far=true) (hi:inE x) (hz:szE x≤200) (k:x.kind=23) :
  Calls Tryz.prog 14 #[.agg cs] w (Gives (.string ⟨(textE x).toArray⟩) w):=by
 have hn:x.kids.length=1:=(right_parts hr).1 1 (by rw[k];rfl);have hsl:=str_len hr;obtain⟨qn,qi,np,nc,p,cap,rfl,_,_,_,hkid⟩:=open8 IH h hr hi hz;obtain⟨g,off,k0,k1,k2,k3,k4,k5,k6,k7,k8,k9,hp0,hc0,hT0,hF0,hl0,hm0⟩:=hkid 0 (by omega);subst hp0;have hE:textE x=([115,116,114]:List UInt8)++[40]++textE (x.kids.getD 0 noET)++[41]:=by
  rw[textE_c (by omega) (by omega) hn];rw[k];obtain⟨a,ha⟩:=len1 hn;rw[ha]<;>simp[textEL,allT,callsB]
 replace hE:(⟨(textE x).toArray⟩:ByteArray)=⟨(([115,116,114]:List UInt8)++[40]++textE (x.kids.getD 0 noET)++[41]).toArray⟩:=by rw[hE]
 generalize textE (x.kids.getD 0 noET)=t0 at *;clear h hr hi hz hkid;rw[k,hn];have hB:Below w.heap.size w (w.alloc (.cells #[.int .i64 23,.string ⟨x.str.toArray⟩,.int .i64 x.v.kind,.int .i64 x.v.num,.float .f64 x.v.flt,.string ⟨x.v.str.toArray⟩,qn,qi,.slice np x.names.length nc,.slice (some ⟨g,off,none⟩) 1 cap] 29)):=(Below.refl _ _).alloc (Nat.le_refl _) _;have hnew:(w.alloc (.cells #[.int .i64 23,.string ⟨x.str.toArray⟩,.int .i64 x.v.kind,.int .i64 x.v.num,.float .f64 x.v.flt,.string ⟨x.v.str.toArray⟩,qn,qi,.slice np x.names.length nc,.slice (some ⟨g,off,none⟩) 1 cap] 29)).heap[w.heap.size]?=some (.cells #[.int .i64 23,.string ⟨x.str.toArray⟩,.int .i64 x.v.kind,.int .i64 x.v.num,.float .f64 x.v.flt,.string ⟨x.v.str.toArray⟩,qn,qi,.slice np x.names.length nc,.slice (some ⟨g,off,none⟩) 1 cap] 29 (0,0)):=heap_alloc_new w _;obtain⟨C1,hC1⟩:∃ C:ByteArray,C=⟨(([115,116,114]:List UInt8)++[40]).toArray⟩:=⟨_,rfl⟩;have hs1:∀ w,(Op.stringOp .add ⟨(([115,116,114]:List UInt8)).toArray⟩ ⟨([40]).toArray⟩).run Tryz.prog w=.ok (.string C1) w:=fun w=>by
  rw[hC1,run_string_add_sum w _ _ (by simp[ByteArray.size]<;>omega),ba_cat]
 obtain⟨C2,hC2⟩:∃ C:ByteArray,C=⟨((([115,116,114]:List UInt8)++[40])++t0).toArray⟩:=⟨_,rfl⟩;have hs2:∀ w,(Op.stringOp .add C1 ⟨(t0).toArray⟩).run Tryz.prog w=.ok (.string C2) w:=fun w=>by
  rw[hC1];rw[hC2,run_string_add_sum w _ _ (by simp[ByteArray.size]<;>omega),ba_cat]
 obtain⟨C3,hC3⟩:∃ C:ByteArray,C=⟨(((([115,116,114]:List UInt8)++[40])++t0)++[41]).toArray⟩:=⟨_,rfl⟩;have hs3:∀ w,(Op.stringOp .add C2 ⟨([41]).toArray⟩).run Tryz.prog w=.ok (.string C3) w:=fun w=>by
  rw[hC2];rw[hC3,run_string_add_sum w _ _ (by simp[ByteArray.size]<;>omega),ba_cat]
 rw[←hC3]at hE;have HE:=zh hE;clear hE hC1 hC2 hC3;generalize (⟨t0.toArray⟩:ByteArray)=T_t0 at *;go_in;go_upto_region 1 with (fail)
 generalize w.alloc (.cells #[.int .i64 23,.string ⟨x.str.toArray⟩,.int .i64 x.v.kind,.int .i64 x.v.num,.float .f64 x.v.flt,.string ⟨x.v.str.toArray⟩,qn,qi,.slice np x.names.length nc,.slice (some ⟨g,off,none⟩) 1 cap] 29)=W1 at *;have hLt:=lt_of_block hnew;have HS:Hid (∀ w',Below W1.heap.size W1 w'→w'.cell? ⟨w.heap.size,0,none⟩=some (.int .i64 23)∧w'.cell? ⟨g,off,none⟩=some k0∧w'.cell? ⟨g,off+1,none⟩=some k1∧w'.cell? ⟨g,off+2,none⟩=some k2∧w'.cell? ⟨g,off+3,none⟩=some k3∧w'.cell? ⟨g,off+4,none⟩=some k4∧w'.cell? ⟨g,off+5,none⟩=some k5∧w'.cell? ⟨g,off+6,none⟩=some k6∧w'.cell? ⟨g,off+7,none⟩=some k7∧w'.cell? ⟨g,off+8,none⟩=some k8∧w'.cell? ⟨g,off+9,none⟩=some k9):=zh (fun w' hb=>⟨(by rw[zc ((hb.block _ hLt).trans hnew)];rfl),(by have:=hc0 w' (hB.trans (hb.mono hB.size));simpa using this.1),(by have:=hc0 w' (hB.trans (hb.mono hB.size));simpa using this.2.1),(by have:=hc0 w' (hB.trans (hb.mono hB.size));simpa using this.2.2.1),(by have:=hc0 w' (hB.trans (hb.mono hB.size));simpa using this.2.2.2.1),(by have:=hc0 w' (hB.trans (hb.mono hB.size));simpa using this.2.2.2.2.1),(by have:=hc0 w' (hB.trans (hb.mono hB.size));simpa using this.2.2.2.2.2.1),(by have:=hc0 w' (hB.trans (hb.mono hB.size));simpa using this.2.2.2.2.2.2.1),(by have:=hc0 w' (hB.trans (hb.mono hB.size));simpa using this.2.2.2.2.2.2.2.1),(by have:=hc0 w' (hB.trans (hb.mono hB.size));simpa using this.2.2.2.2.2.2.2.2.1),(by have:=hc0 w' (hB.trans (hb.mono hB.size));simpa using this.2.2.2.2.2.2.2.2.2)⟩);have HC0:=zh (fun w' (hb:Below W1.heap.size W1 w')=>hT0 w' (hB.trans (hb.mono hB.size)));clear hc0 hT0 hF0 hl0 hm0;have hr0:Below W1.heap.size W1 W1:=Below.refl _ _;obtain⟨a0,a1,a9⟩:W1.cell? ⟨w.heap.size,0,none⟩=some (.int .i64 23)∧W1.cell? ⟨w.heap.size,1,none⟩=some (.string ⟨x.str.toArray⟩)∧W1.cell? ⟨w.heap.size,9,none⟩=some (.slice (some ⟨g,off,none⟩) 1 cap):=⟨by rw[zc hnew];rfl,by rw[zc hnew];rfl,by rw[zc hnew];rfl⟩;clear hnew hLt;go_wp2_with fail
 have hwr:IntKind.i64.wrap 3=3:=by decide
 refine wp_region_held_drew (S:=(fun w'=>w'.cell? ⟨w.heap.size,0,none⟩=some (.int .i64 23)∧w'.cell? ⟨g,off,none⟩=some k0∧w'.cell? ⟨g,off+1,none⟩=some k1∧w'.cell? ⟨g,off+2,none⟩=some k2∧w'.cell? ⟨g,off+3,none⟩=some k3∧w'.cell? ⟨g,off+4,none⟩=some k4∧w'.cell? ⟨g,off+5,none⟩=some k5∧w'.cell? ⟨g,off+6,none⟩=some k6∧w'.cell? ⟨g,off+7,none⟩=some k7∧w'.cell? ⟨g,off+8,none⟩=some k8∧w'.cell? ⟨g,off+9,none⟩=some k9)) (by kernel_rfl) (HS.out _ hr0.drew) (fun hHeld=>?_);refine wpAnyH_take (i:=1) (oi:=_) (v:=?v55) rfl (by kernel_rfl) (by kernel_rfl) (by kernel_rfl) (fun _ _ _ h=>h) (Or.inl ⟨by rfl,?hy55⟩) (by assumption) ?rest55
 case hy55=>(intro w0 hSw;(try dsimp only at hSw);go_simp;try with_reducible rfl)
 try simp only[Act.put,List.setIfInBounds_toArray]
 refine wpAnyH_take (i:=2) (oi:=_) (v:=?v56) rfl (by kernel_rfl) (by kernel_rfl) (by kernel_rfl) (fun _ _ _ h=>h) (Or.inl ⟨by rfl,?hy56⟩) (by assumption) ?rest56
 case hy56=>(intro w0 hSw;(try dsimp only at hSw);go_simp;try with_reducible rfl)
 try simp only[Act.put]
 refine wpAnyH_take (i:=3) (oi:=_) (v:=?v57) rfl (by kernel_rfl) (by kernel_rfl) (by kernel_rfl) (fun _ _ _ h=>h) (Or.inl ⟨by rfl,?hy57⟩) (by assumption) ?rest57
 case hy57=>(intro w0 hSw;(try dsimp only at hSw);go_simp;try with_reducible rfl)
 try simp only[Act.put]
 refine wpAnyH_take (i:=7) (oi:=_) (v:=?v58) rfl (by kernel_rfl) (by kernel_rfl) (by kernel_rfl) (fun _ _ _ h=>h) (Or.inl ⟨by rfl,?hy58⟩) (by assumption) ?rest58
 case hy58=>(intro w0 hSw;(try dsimp only at hSw);go_simp;try with_reducible rfl)
 try simp only[Act.put]
 refine wpAnyH_take (i:=8) (oi:=_) (v:=?v59) rfl (by kernel_rfl) (by kernel_rfl) (by kernel_rfl) (fun _ _ _ h=>h) (Or.inl ⟨by rfl,?hy59⟩) (by assumption) ?rest59
 case hy59=>(intro w0 hSw;(try dsimp only at hSw);go_simp;try with_reducible rfl)
 try simp only[Act.put]
 refine wpAnyH_take (i:=9) (oi:=_) (v:=?v60) rfl (by kernel_rfl) (by kernel_rfl) (by kernel_rfl) (fun _ _ _ h=>h) (Or.inl ⟨by rfl,?hy60⟩) (by assumption) ?rest60
 case hy60=>(intro w0 hSw;(try dsimp only at hSw);go_simp;try with_reducible rfl)
 try simp only[Act.put]
 refine wpAnyH_ready (rs:=[0,10]) (by kernel_rfl) (by simp) ?_;refine AllReadyH.cons (o:=_) rfl (fun K2 hK2=>?_) (AllReadyH.cons (o:=_) rfl (fun K2 hK2=>?_) AllReadyH.nil)
 ·go_simp
  have hA1:Below W1.heap.size W1 (W1.alloc (.cells #[.string ⟨#[108,101,110]⟩,.string ⟨#[102,108,111,97,116]⟩,.string ⟨#[105,110,116]⟩,.string ⟨#[115,116,114]⟩] 9)).drew:=(hr0.alloc (Nat.le_refl _) _).drew;refine hK2.out _ _ (HS.out _ hA1) (fun hHeld=>?_);clear hK2 K2;try simp only[Act.put,List.setIfInBounds_toArray,List.set_cons_zero,List.set_cons_succ]
  clear hHeld;have cG:(W1.alloc (.cells #[.string ⟨#[108,101,110]⟩,.string ⟨#[102,108,111,97,116]⟩,.string ⟨#[105,110,116]⟩,.string ⟨#[115,116,114]⟩] 9)).cell? ⟨W1.heap.size,3,none⟩=some (.string ⟨#[115,116,114]⟩):=cell_row (heap_alloc_new W1 _) rfl;refine wpAnyH_weak (S':=(fun w'=>(w'.cell? ⟨w.heap.size,0,none⟩=some (.int .i64 23)∧w'.cell? ⟨g,off,none⟩=some k0∧w'.cell? ⟨g,off+1,none⟩=some k1∧w'.cell? ⟨g,off+2,none⟩=some k2∧w'.cell? ⟨g,off+3,none⟩=some k3∧w'.cell? ⟨g,off+4,none⟩=some k4∧w'.cell? ⟨g,off+5,none⟩=some k5∧w'.cell? ⟨g,off+6,none⟩=some k6∧w'.cell? ⟨g,off+7,none⟩=some k7∧w'.cell? ⟨g,off+8,none⟩=some k8∧w'.cell? ⟨g,off+9,none⟩=some k9)∧w'.cell? ⟨W1.heap.size,3,none⟩=some (.string ⟨#[115,116,114]⟩))) (fun w h=>h.1) _ _ _ _ ?_;have hHeld:(fun w'=>(w'.cell? ⟨w.heap.size,0,none⟩=some (.int .i64 23)∧w'.cell? ⟨g,off,none⟩=some k0∧w'.cell? ⟨g,off+1,none⟩=some k1∧w'.cell? ⟨g,off+2,none⟩=some k2∧w'.cell? ⟨g,off+3,none⟩=some k3∧w'.cell? ⟨g,off+4,none⟩=some k4∧w'.cell? ⟨g,off+5,none⟩=some k5∧w'.cell? ⟨g,off+6,none⟩=some k6∧w'.cell? ⟨g,off+7,none⟩=some k7∧w'.cell? ⟨g,off+8,none⟩=some k8∧w'.cell? ⟨g,off+9,none⟩=some k9)∧w'.cell? ⟨W1.heap.size,3,none⟩=some (.string ⟨#[115,116,114]⟩)) (W1.alloc (.cells #[.string ⟨#[108,101,110]⟩,.string ⟨#[102,108,111,97,116]⟩,.string ⟨#[105,110,116]⟩,.string ⟨#[115,116,114]⟩] 9)).drew:=⟨HS.out _ hA1,cG⟩;refine wpAnyH_take (i:=4) (oi:=_) (v:=?v61) rfl (by kernel_rfl) (by kernel_rfl) (by kernel_rfl) (fun _ _ _ h=>h) (Or.inl ⟨by rfl,?hy61⟩) (by assumption) ?rest61
  case hy61=>(intro w0 hSw;(try dsimp only at hSw);go_simp;try with_reducible rfl)
  try simp only[Act.put,List.setIfInBounds_toArray]
  refine wpAnyH_take (i:=5) (oi:=_) (v:=?v62) rfl (by kernel_rfl) (by kernel_rfl) (by kernel_rfl) (fun _ _ _ h=>h) (Or.inl ⟨by rfl,?hy62⟩) (by assumption) ?rest62
  case hy62=>(intro w0 hSw;(try dsimp only at hSw);go_simp;try with_reducible rfl)
  try simp only[Act.put]
  refine wpAnyH_take (i:=6) (oi:=_) (v:=?v63) rfl (by kernel_rfl) (by kernel_rfl) (by kernel_rfl) (fun _ _ _ h=>h) (Or.inl ⟨by rfl,?hy63⟩) (by assumption) ?rest63
  case hy63=>(intro w0 hSw;(try dsimp only at hSw);go_simp;try with_reducible rfl)
  try simp only[Act.put]
  refine wpAnyH_ready (rs:=[10]) (by kernel_rfl) (by simp) ?_;refine AllReadyH.cons (o:=_) rfl (fun K hK=>?_) AllReadyH.nil;go_simp
  go_at_call 14
  (with_reducible refine(HC0.out _ hA1).mono ?_);rintro e v0 ⟨rfl,hz0⟩
  have hb0:Below W1.heap.size W1 v0:=below_tr' hA1 hz0;refine hK.out _ _ (⟨HS.out _ hb0,(hz0.cell (p:=⟨W1.heap.size,3,none⟩) (by simp)).trans cG⟩) (fun hHeld=>?_);clear hK K;try simp only[Act.put,List.setIfInBounds_toArray,List.set_cons_zero,List.set_cons_succ]
  refine wpAnyH_take (i:=11) (oi:=_) (v:=?v64) rfl (by kernel_rfl) (by kernel_rfl) (by kernel_rfl) (fun _ _ _ h=>h) (Or.inl ⟨by rfl,?hy64⟩) (by assumption) ?rest64
  case hy64=>(intro w0 hSw;(try dsimp only at hSw);go_simp;try with_reducible rfl)
  try simp only[Act.put,List.setIfInBounds_toArray]
  refine wpAnyH_take (i:=12) (oi:=_) (v:=?v65) rfl (by kernel_rfl) (by kernel_rfl) (by kernel_rfl) (fun _ _ _ h=>h) (Or.inl ⟨by rfl,?hy65⟩) (by assumption) ?rest65
  case hy65=>(intro w0 hSw;(try dsimp only at hSw);go_simp;try with_reducible rfl)
  try simp only[Act.put]
  refine wpAnyH_take (i:=13) (oi:=_) (v:=?v66) rfl (by kernel_rfl) (by kernel_rfl) (by kernel_rfl) (fun _ _ _ h=>h) (Or.inl ⟨by rfl,?hy66⟩) (by assumption) ?rest66
  case hy66=>(intro w0 hSw;(try dsimp only at hSw);go_simp;try with_reducible rfl)
  try simp only[Act.put]
  refine wpAnyH_done (by kernel_rfl) ?_ _;go_wp2_with fail
  go_ret;exact⟨ret_val (by rw[HE.out]<;>rfl),hB.trans (hb0.mono hB.size)⟩
 ·go_simp
  go_at_call 14
  (with_reducible refine(HC0.out _ hr0.drew).mono ?_);rintro e v0 ⟨rfl,hz0⟩
  have hb0:Below W1.heap.size W1 v0:=below_tr' hr0.drew hz0;refine hK2.out _ _ (HS.out _ hb0) (fun hHeld=>?_);clear hK2 K2;try simp only[Act.put,List.setIfInBounds_toArray,List.set_cons_zero,List.set_cons_succ]
  have hA2:Below W1.heap.size W1 (v0.alloc (.cells #[.string ⟨#[108,101,110]⟩,.string ⟨#[102,108,111,97,116]⟩,.string ⟨#[105,110,116]⟩,.string ⟨#[115,116,114]⟩] 9)):=hb0.alloc hb0.size _;refine wpAnyH_ready (rs:=[0]) (by kernel_rfl) (by simp) ?_;refine AllReadyH.cons (o:=_) rfl (fun K hK=>?_) AllReadyH.nil;go_simp
  refine hK.out _ _ (HS.out _ hA2) (fun hHeld=>?_);clear hK K;try simp only[Act.put,List.setIfInBounds_toArray,List.set_cons_zero,List.set_cons_succ]
  clear hHeld;have cG:(v0.alloc (.cells #[.string ⟨#[108,101,110]⟩,.string ⟨#[102,108,111,97,116]⟩,.string ⟨#[105,110,116]⟩,.string ⟨#[115,116,114]⟩] 9)).cell? ⟨v0.heap.size,3,none⟩=some (.string ⟨#[115,116,114]⟩):=cell_row (heap_alloc_new v0 _) rfl;refine wpAnyH_weak (S':=(fun w'=>(w'.cell? ⟨w.heap.size,0,none⟩=some (.int .i64 23)∧w'.cell? ⟨g,off,none⟩=some k0∧w'.cell? ⟨g,off+1,none⟩=some k1∧w'.cell? ⟨g,off+2,none⟩=some k2∧w'.cell? ⟨g,off+3,none⟩=some k3∧w'.cell? ⟨g,off+4,none⟩=some k4∧w'.cell? ⟨g,off+5,none⟩=some k5∧w'.cell? ⟨g,off+6,none⟩=some k6∧w'.cell? ⟨g,off+7,none⟩=some k7∧w'.cell? ⟨g,off+8,none⟩=some k8∧w'.cell? ⟨g,off+9,none⟩=some k9)∧w'.cell? ⟨v0.heap.size,3,none⟩=some (.string ⟨#[115,116,114]⟩))) (fun w h=>h.1) _ _ _ _ ?_;have hHeld:(fun w'=>(w'.cell? ⟨w.heap.size,0,none⟩=some (.int .i64 23)∧w'.cell? ⟨g,off,none⟩=some k0∧w'.cell? ⟨g,off+1,none⟩=some k1∧w'.cell? ⟨g,off+2,none⟩=some k2∧w'.cell? ⟨g,off+3,none⟩=some k3∧w'.cell? ⟨g,off+4,none⟩=some k4∧w'.cell? ⟨g,off+5,none⟩=some k5∧w'.cell? ⟨g,off+6,none⟩=some k6∧w'.cell? ⟨g,off+7,none⟩=some k7∧w'.cell? ⟨g,off+8,none⟩=some k8∧w'.cell? ⟨g,off+9,none⟩=some k9)∧w'.cell? ⟨v0.heap.size,3,none⟩=some (.string ⟨#[115,116,114]⟩)) (v0.alloc (.cells #[.string ⟨#[108,101,110]⟩,.string ⟨#[102,108,111,97,116]⟩,.string ⟨#[105,110,116]⟩,.string ⟨#[115,116,114]⟩] 9)):=⟨HS.out _ hA2,cG⟩;refine wpAnyH_take (i:=4) (oi:=_) (v:=?v67) rfl (by kernel_rfl) (by kernel_rfl) (by kernel_rfl) (fun _ _ _ h=>h) (Or.inl ⟨by rfl,?hy67⟩) (by assumption) ?rest67
  case hy67=>(intro w0 hSw;(try dsimp only at hSw);go_simp;try with_reducible rfl)
  try simp only[Act.put,List.setIfInBounds_toArray]
  refine wpAnyH_take (i:=5) (oi:=_) (v:=?v68) rfl (by kernel_rfl) (by kernel_rfl) (by kernel_rfl) (fun _ _ _ h=>h) (Or.inl ⟨by rfl,?hy68⟩) (by assumption) ?rest68
  case hy68=>(intro w0 hSw;(try dsimp only at hSw);go_simp;try with_reducible rfl)
  try simp only[Act.put]
  refine wpAnyH_take (i:=6) (oi:=_) (v:=?v69) rfl (by kernel_rfl) (by kernel_rfl) (by kernel_rfl) (fun _ _ _ h=>h) (Or.inl ⟨by rfl,?hy69⟩) (by assumption) ?rest69
  case hy69=>(intro w0 hSw;(try dsimp only at hSw);go_simp;try with_reducible rfl)
  try simp only[Act.put]
  refine wpAnyH_take (i:=11) (oi:=_) (v:=?v70) rfl (by kernel_rfl) (by kernel_rfl) (by kernel_rfl) (fun _ _ _ h=>h) (Or.inl ⟨by rfl,?hy70⟩) (by assumption) ?rest70
  case hy70=>(intro w0 hSw;(try dsimp only at hSw);go_simp;try with_reducible rfl)
  try simp only[Act.put]
  refine wpAnyH_take (i:=12) (oi:=_) (v:=?v71) rfl (by kernel_rfl) (by kernel_rfl) (by kernel_rfl) (fun _ _ _ h=>h) (Or.inl ⟨by rfl,?hy71⟩) (by assumption) ?rest71
  case hy71=>(intro w0 hSw;(try dsimp only at hSw);go_simp;try with_reducible rfl)
  try simp only[Act.put]
  refine wpAnyH_take (i:=13) (oi:=_) (v:=?v72) rfl (by kernel_rfl) (by kernel_rfl) (by kernel_rfl) (fun _ _ _ h=>h) (Or.inl ⟨by rfl,?hy72⟩) (by assumption) ?rest72
  case hy72=>(intro w0 hSw;(try dsimp only at hSw);go_simp;try with_reducible rfl)
  try simp only[Act.put]
  refine wpAnyH_done (by kernel_rfl) ?_ _;go_wp2_with fail
  go_ret;exact⟨ret_val (by rw[HE.out]<;>rfl),hB.trans (hA2.mono hB.size)⟩
theorem text8_s (d:Nat) (IH:TE d) (x:ET) (cs:Array Value) (far:Nat) (w:World) (h:ExAt' w (d+1) x cs) (hr:rightE x far=true) (hi:inE x) (hz:szE x≤200) (K:Int) (i:Nat) (hi9:i<10) (hK:K=5+(i:Int)) (k:x.kind=K) :
  Calls Tryz.prog 14 #[.agg cs] w (Gives (.string ⟨(textE x).toArray⟩) w):=by
 have HK:=zh hK;have E0:=hK;clear hK;have hn:x.kids.length=2:=(right_parts hr).1 2 (by rw[k,HK.out];rcases(by omega:i=0∨i=1∨i=2∨i=3∨i=4∨i=5∨i=6∨i=7∨i=8∨i=9)with rfl|rfl|rfl|rfl|rfl|rfl|rfl|rfl|rfl|rfl<;>rfl)
 have hwl:=(word_len i).2;have hcell:(#[.string ⟨#[43]⟩,.string ⟨#[45]⟩,.string ⟨#[42]⟩,.string ⟨#[47]⟩,.string ⟨#[37]⟩,.string ⟨#[61,61]⟩,.string ⟨#[60]⟩,.string ⟨#[60,61]⟩,.string ⟨#[38,38]⟩,.string ⟨#[124,124]⟩]:Array Value)[i]?=some (.string ⟨(signsB.getD i []).toArray⟩):=by
  clear hn hwl;rcases(by omega:i=0∨i=1∨i=2∨i=3∨i=4∨i=5∨i=6∨i=7∨i=8∨i=9)with rfl|rfl|rfl|rfl|rfl|rfl|rfl|rfl|rfl|rfl<;>rfl
 have e1:(K==1)=false:=beq_eq_false_iff_ne.2 (by omega);have e2:(K==2)=false:=beq_eq_false_iff_ne.2 (by omega);have e3:(K==3)=false:=beq_eq_false_iff_ne.2 (by omega);have e4:(K==4)=false:=beq_eq_false_iff_ne.2 (by omega);have e15:(K==15)=false:=beq_eq_false_iff_ne.2 (by omega);have e18:(K==18)=false:=beq_eq_false_iff_ne.2 (by omega);have e19:(K==19)=false:=beq_eq_false_iff_ne.2 (by omega);have e20:(K==20)=false:=beq_eq_false_iff_ne.2 (by omega);have e21:(K==21)=false:=beq_eq_false_iff_ne.2 (by omega);have e22:(K==22)=false:=beq_eq_false_iff_ne.2 (by omega);have e23:(K==23)=false:=beq_eq_false_iff_ne.2 (by omega);have e16:(K==16)=false:=beq_eq_false_iff_ne.2 (by omega);have e17:(K==17)=false:=beq_eq_false_iff_ne.2 (by omega);clear E0;obtain⟨qn,qi,np,nc,p,cap,rfl,_,_,_,hkid⟩:=open8 IH h hr hi hz;obtain⟨g,off,k0,k1,k2,k3,k4,k5,k6,k7,k8,k9,hp0,hc0,hT0,hF0,hl0,hm0⟩:=hkid 0 (by omega);obtain⟨g',off',l0,l1,l2,l3,l4,l5,l6,l7,l8,l9,hp1,hc1,hT1,hF1,hl1,hm1⟩:=hkid 1 (by omega);rw[hp0]at hp1;obtain⟨rfl,rfl⟩:g=g'∧off=off':=by cases hp1;exact⟨rfl,rfl⟩
 clear hp1;subst hp0;have hE:textE x=[40]++textE (x.kids.getD 0 noET)++(signsB.getD i [])++textE (x.kids.getD 1 noET)++[41]:=by
  rw[textE_s (by have:=HK.out;omega) (by have:=HK.out;omega) hn];rw[k,HK.out,show((5:Int)+(i:Int) - 5).toNat=i by omega];obtain⟨a,b,ha⟩:=len2 hn;rw[ha]<;>simp[textEL,allT]
 replace hE:(⟨(textE x).toArray⟩:ByteArray)=⟨([40]++textE (x.kids.getD 0 noET)++(signsB.getD i [])++textE (x.kids.getD 1 noET)++[41]).toArray⟩:=by rw[hE]
 generalize textE (x.kids.getD 0 noET)=t0 at *;generalize textE (x.kids.getD 1 noET)=t1 at *;generalize signsB.getD i []=WD at *;clear h hr hi hz hkid;rw[k,hn];have hB:Below w.heap.size w (w.alloc (.cells #[.int .i64 K,.string ⟨x.str.toArray⟩,.int .i64 x.v.kind,.int .i64 x.v.num,.float .f64 x.v.flt,.string ⟨x.v.str.toArray⟩,qn,qi,.slice np x.names.length nc,.slice (some ⟨g,off,none⟩) 2 cap] 29)):=(Below.refl _ _).alloc (Nat.le_refl _) _;have hnew:(w.alloc (.cells #[.int .i64 K,.string ⟨x.str.toArray⟩,.int .i64 x.v.kind,.int .i64 x.v.num,.float .f64 x.v.flt,.string ⟨x.v.str.toArray⟩,qn,qi,.slice np x.names.length nc,.slice (some ⟨g,off,none⟩) 2 cap] 29)).heap[w.heap.size]?=some (.cells #[.int .i64 K,.string ⟨x.str.toArray⟩,.int .i64 x.v.kind,.int .i64 x.v.num,.float .f64 x.v.flt,.string ⟨x.v.str.toArray⟩,qn,qi,.slice np x.names.length nc,.slice (some ⟨g,off,none⟩) 2 cap] 29 (0,0)):=heap_alloc_new w _;obtain⟨C1,hC1⟩:∃ C:ByteArray,C=⟨([40]++t0).toArray⟩:=⟨_,rfl⟩;have hs1:∀ w,(Op.stringOp .add ⟨([40]).toArray⟩ ⟨(t0).toArray⟩).run Tryz.prog w=.ok (.string C1) w:=fun w=>by
  rw[hC1,run_string_add_sum w _ _ (by simp[ByteArray.size]<;>omega),ba_cat]
 obtain⟨C2,hC2⟩:∃ C:ByteArray,C=⟨(([40]++t0)++WD).toArray⟩:=⟨_,rfl⟩;have hs2:∀ w,(Op.stringOp .add C1 ⟨(WD).toArray⟩).run Tryz.prog w=.ok (.string C2) w:=fun w=>by
  rw[hC1];rw[hC2,run_string_add_sum w _ _ (by simp[ByteArray.size]<;>omega),ba_cat]
 obtain⟨C3,hC3⟩:∃ C:ByteArray,C=⟨((([40]++t0)++WD)++t1).toArray⟩:=⟨_,rfl⟩;have hs3:∀ w,(Op.stringOp .add C2 ⟨(t1).toArray⟩).run Tryz.prog w=.ok (.string C3) w:=fun w=>by
  rw[hC2];rw[hC3,run_string_add_sum w _ _ (by simp[ByteArray.size]<;>omega),ba_cat]
 obtain⟨C4,hC4⟩:∃ C:ByteArray,C=⟨(((([40]++t0)++WD)++t1)++[41]).toArray⟩:=⟨_,rfl⟩;have hs4:∀ w,(Op.stringOp .add C3 ⟨([41]).toArray⟩).run Tryz.prog w=.ok (.string C4) w:=fun w=>by
  rw[hC3];rw[hC4,run_string_add_sum w _ _ (by simp[ByteArray.size]<;>omega),ba_cat]
 rw[←hC4]at hE;have HE:=zh hE;clear hE hC1 hC2 hC3 hC4;generalize (⟨t0.toArray⟩:ByteArray)=T_t0 at *;generalize (⟨t1.toArray⟩:ByteArray)=T_t1 at *;go_in;go_upto_region 1 with (fail)
 generalize w.alloc (.cells #[.int .i64 K,.string ⟨x.str.toArray⟩,.int .i64 x.v.kind,.int .i64 x.v.num,.float .f64 x.v.flt,.string ⟨x.v.str.toArray⟩,qn,qi,.slice np x.names.length nc,.slice (some ⟨g,off,none⟩) 2 cap] 29)=W1 at *;have hLt:=lt_of_block hnew;have HS:Hid (∀ w',Below W1.heap.size W1 w'→w'.cell? ⟨w.heap.size,0,none⟩=some (.int .i64 K)∧w'.cell? ⟨g,off,none⟩=some k0∧w'.cell? ⟨g,off+1,none⟩=some k1∧w'.cell? ⟨g,off+2,none⟩=some k2∧w'.cell? ⟨g,off+3,none⟩=some k3∧w'.cell? ⟨g,off+4,none⟩=some k4∧w'.cell? ⟨g,off+5,none⟩=some k5∧w'.cell? ⟨g,off+6,none⟩=some k6∧w'.cell? ⟨g,off+7,none⟩=some k7∧w'.cell? ⟨g,off+8,none⟩=some k8∧w'.cell? ⟨g,off+9,none⟩=some k9∧w'.cell? ⟨g,off+10,none⟩=some l0∧w'.cell? ⟨g,off+11,none⟩=some l1∧w'.cell? ⟨g,off+12,none⟩=some l2∧w'.cell? ⟨g,off+13,none⟩=some l3∧w'.cell? ⟨g,off+14,none⟩=some l4∧w'.cell? ⟨g,off+15,none⟩=some l5∧w'.cell? ⟨g,off+16,none⟩=some l6∧w'.cell? ⟨g,off+17,none⟩=some l7∧w'.cell? ⟨g,off+18,none⟩=some l8∧w'.cell? ⟨g,off+19,none⟩=some l9):=zh (fun w' hb=>⟨(by rw[zc ((hb.block _ hLt).trans hnew)];rfl),(by have:=hc0 w' (hB.trans (hb.mono hB.size));simpa using this.1),(by have:=hc0 w' (hB.trans (hb.mono hB.size));simpa using this.2.1),(by have:=hc0 w' (hB.trans (hb.mono hB.size));simpa using this.2.2.1),(by have:=hc0 w' (hB.trans (hb.mono hB.size));simpa using this.2.2.2.1),(by have:=hc0 w' (hB.trans (hb.mono hB.size));simpa using this.2.2.2.2.1),(by have:=hc0 w' (hB.trans (hb.mono hB.size));simpa using this.2.2.2.2.2.1),(by have:=hc0 w' (hB.trans (hb.mono hB.size));simpa using this.2.2.2.2.2.2.1),(by have:=hc0 w' (hB.trans (hb.mono hB.size));simpa using this.2.2.2.2.2.2.2.1),(by have:=hc0 w' (hB.trans (hb.mono hB.size));simpa using this.2.2.2.2.2.2.2.2.1),(by have:=hc0 w' (hB.trans (hb.mono hB.size));simpa using this.2.2.2.2.2.2.2.2.2),(by have:=hc1 w' (hB.trans (hb.mono hB.size));simpa using this.1),(by have:=hc1 w' (hB.trans (hb.mono hB.size));simpa using this.2.1),(by have:=hc1 w' (hB.trans (hb.mono hB.size));simpa using this.2.2.1),(by have:=hc1 w' (hB.trans (hb.mono hB.size));simpa using this.2.2.2.1),(by have:=hc1 w' (hB.trans (hb.mono hB.size));simpa using this.2.2.2.2.1),(by have:=hc1 w' (hB.trans (hb.mono hB.size));simpa using this.2.2.2.2.2.1),(by have:=hc1 w' (hB.trans (hb.mono hB.size));simpa using this.2.2.2.2.2.2.1),(by have:=hc1 w' (hB.trans (hb.mono hB.size));simpa using this.2.2.2.2.2.2.2.1),(by have:=hc1 w' (hB.trans (hb.mono hB.size));simpa using this.2.2.2.2.2.2.2.2.1),(by have:=hc1 w' (hB.trans (hb.mono hB.size));simpa using this.2.2.2.2.2.2.2.2.2)⟩);have HC0:=zh (fun w' (hb:Below W1.heap.size W1 w')=>hT0 w' (hB.trans (hb.mono hB.size)));have HC1:=zh (fun w' (hb:Below W1.heap.size W1 w')=>hT1 w' (hB.trans (hb.mono hB.size)));clear hc0 hT0 hF0 hl0 hm0 hc1 hT1 hF1 hl1 hm1;have hr0:Below W1.heap.size W1 W1:=Below.refl _ _;obtain⟨a0,a1,a9⟩:W1.cell? ⟨w.heap.size,0,none⟩=some (.int .i64 K)∧W1.cell? ⟨w.heap.size,1,none⟩=some (.string ⟨x.str.toArray⟩)∧W1.cell? ⟨w.heap.size,9,none⟩=some (.slice (some ⟨g,off,none⟩) 2 cap):=⟨by rw[zc hnew];rfl,by rw[zc hnew];rfl,by rw[zc hnew];rfl⟩;clear hnew hLt;go_wp2_with fail
 have hwr:IntKind.i64.wrap (K - 5)=(i:Int):=by
  rw[HK.out,show(5:Int)+(i:Int) - 5=(i:Int) by omega];exact Lib.wrap_i64_small i (by omega)
 have j0:(0:Int)≤(i:Int):=by omega
 have j1:(i:Int)<10:=by omega
 clear HK;generalize (⟨WD.toArray⟩:ByteArray)=T_w at *;have HO:=zh (fun w=>rops_any w);obtain⟨a0,a1,a2,a3,a4,a5,a6,a7,a8,a9,a10,a11,a12,a13,a14,a15,a16,a17,a18,a19,a20⟩:=HS.out _ hr0;refine wp_region_held_drew (S:=(fun w'=>w'.cell? ⟨w.heap.size,0,none⟩=some (.int .i64 K)∧w'.cell? ⟨g,off,none⟩=some k0∧w'.cell? ⟨g,off+1,none⟩=some k1∧w'.cell? ⟨g,off+2,none⟩=some k2∧w'.cell? ⟨g,off+3,none⟩=some k3∧w'.cell? ⟨g,off+4,none⟩=some k4∧w'.cell? ⟨g,off+5,none⟩=some k5∧w'.cell? ⟨g,off+6,none⟩=some k6∧w'.cell? ⟨g,off+7,none⟩=some k7∧w'.cell? ⟨g,off+8,none⟩=some k8∧w'.cell? ⟨g,off+9,none⟩=some k9∧w'.cell? ⟨g,off+10,none⟩=some l0∧w'.cell? ⟨g,off+11,none⟩=some l1∧w'.cell? ⟨g,off+12,none⟩=some l2∧w'.cell? ⟨g,off+13,none⟩=some l3∧w'.cell? ⟨g,off+14,none⟩=some l4∧w'.cell? ⟨g,off+15,none⟩=some l5∧w'.cell? ⟨g,off+16,none⟩=some l6∧w'.cell? ⟨g,off+17,none⟩=some l7∧w'.cell? ⟨g,off+18,none⟩=some l8∧w'.cell? ⟨g,off+19,none⟩=some l9)) (by kernel_rfl) (HS.out _ hr0.drew) (fun hHeld=>?_);refine wpAnyH_take (i:=0) (oi:=_) (v:=?v73) rfl (by kernel_rfl) (by kernel_rfl) (by kernel_rfl) (fun _ _ _ h=>h) (Or.inl ⟨by rfl,?hy73⟩) (by assumption) ?rest73
 case hy73=>(intro w0 hSw;(try dsimp only at hSw);go_simp;try with_reducible rfl)
 try simp only[Act.put,List.setIfInBounds_toArray]
 refine wpAnyH_take (i:=1) (oi:=_) (v:=?v74) rfl (by kernel_rfl) (by kernel_rfl) (by kernel_rfl) (fun _ _ _ h=>h) (Or.inl ⟨by rfl,?hy74⟩) (by assumption) ?rest74
 case hy74=>(intro w0 hSw;(try dsimp only at hSw);go_simp;try with_reducible rfl)
 try simp only[Act.put]
 refine wpAnyH_take (i:=2) (oi:=_) (v:=?v75) rfl (by kernel_rfl) (by kernel_rfl) (by kernel_rfl) (fun _ _ _ h=>h) (Or.inl ⟨by rfl,?hy75⟩) (by assumption) ?rest75
 case hy75=>(intro w0 hSw;(try dsimp only at hSw);go_simp;try with_reducible rfl)
 try simp only[Act.put]
 refine wpAnyH_take (i:=6) (oi:=_) (v:=?v76) rfl (by kernel_rfl) (by kernel_rfl) (by kernel_rfl) (fun _ _ _ h=>h) (Or.inl ⟨by rfl,?hy76⟩) (by assumption) ?rest76
 case hy76=>(intro w0 hSw;(try dsimp only at hSw);go_simp;try with_reducible rfl)
 try simp only[Act.put]
 refine wpAnyH_take (i:=7) (oi:=_) (v:=?v77) rfl (by kernel_rfl) (by kernel_rfl) (by kernel_rfl) (fun _ _ _ h=>h) (Or.inl ⟨by rfl,?hy77⟩) (by assumption) ?rest77
 case hy77=>(intro w0 hSw;(try dsimp only at hSw);go_simp;try with_reducible rfl)
 try simp only[Act.put]
 refine wpAnyH_take (i:=8) (oi:=_) (v:=?v78) rfl (by kernel_rfl) (by kernel_rfl) (by kernel_rfl) (fun _ _ _ h=>h) (Or.inl ⟨by rfl,?hy78⟩) (by assumption) ?rest78
 case hy78=>(intro w0 hSw;(try dsimp only at hSw);go_simp;try with_reducible rfl)
 try simp only[Act.put]
 refine wpAnyH_take (i:=12) (oi:=_) (v:=?v79) rfl (by kernel_rfl) (by kernel_rfl) (by kernel_rfl) (fun _ _ _ h=>h) (Or.inl ⟨by rfl,?hy79⟩) (by assumption) ?rest79
 case hy79=>(intro w0 hSw;(try dsimp only at hSw);go_simp;try with_reducible rfl)
 try simp only[Act.put]
 refine wpAnyH_take (i:=13) (oi:=_) (v:=?v80) rfl (by kernel_rfl) (by kernel_rfl) (by kernel_rfl) (fun _ _ _ h=>h) (Or.inl ⟨by rfl,?hy80⟩) (by assumption) ?rest80
 case hy80=>(intro w0 hSw;(try dsimp only at hSw);go_simp;try with_reducible rfl)
 try simp only[Act.put]
 refine wpAnyH_take (i:=14) (oi:=_) (v:=?v81) rfl (by kernel_rfl) (by kernel_rfl) (by kernel_rfl) (fun _ _ _ h=>h) (Or.inl ⟨by rfl,?hy81⟩) (by assumption) ?rest81
 case hy81=>(intro w0 hSw;(try dsimp only at hSw);go_simp;try with_reducible rfl)
 try simp only[Act.put]
 refine wpAnyH_ready (rs:=[3]) (by kernel_rfl) (by simp) ?_;refine AllReadyH.cons (o:=_) rfl (fun K hK=>?_) AllReadyH.nil;go_simp
 go_at_call 14
 (with_reducible refine(HC0.out _ hr0.drew).mono ?_);rintro e v0 ⟨rfl,hz0⟩
 have hb0:Below W1.heap.size W1 v0:=below_tr' hr0.drew hz0;refine hK.out _ _ (HS.out _ hb0) (fun hHeld=>?_);clear hK K;try simp only[Act.put,List.setIfInBounds_toArray,List.set_cons_zero,List.set_cons_succ]
 refine wpAnyH_take (i:=4) (oi:=_) (v:=?v82) rfl (by kernel_rfl) (by kernel_rfl) (by kernel_rfl) (fun _ _ _ h=>h) (Or.inl ⟨by rfl,?hy82⟩) (by assumption) ?rest82
 case hy82=>(intro w0 hSw;(try dsimp only at hSw);go_simp;try with_reducible rfl)
 try simp only[Act.put,List.setIfInBounds_toArray]
 refine wpAnyH_ready (rs:=[5]) (by kernel_rfl) (by simp) ?_;refine AllReadyH.cons (o:=_) rfl (fun K hK=>?_) AllReadyH.nil;go_simp
 go_at_call 29
 (with_reducible refine(HO.out _).mono ?_);rintro e v1 ⟨G,rfl,hG,hz1⟩
 have hb1:Below W1.heap.size W1 v1:=below_tr' hb0 hz1;have cG:v1.cell? ⟨G,i,none⟩=some (.string T_w):=cell_row hG hcell;have hGl:=lt_of_block hG;refine hK.out _ _ (HS.out _ hb1) (fun hHeld=>?_);clear hK K;try simp only[Act.put,List.setIfInBounds_toArray,List.set_cons_zero,List.set_cons_succ]
 clear hHeld;refine wpAnyH_weak (S':=(fun w'=>(w'.cell? ⟨w.heap.size,0,none⟩=some (.int .i64 K)∧w'.cell? ⟨g,off,none⟩=some k0∧w'.cell? ⟨g,off+1,none⟩=some k1∧w'.cell? ⟨g,off+2,none⟩=some k2∧w'.cell? ⟨g,off+3,none⟩=some k3∧w'.cell? ⟨g,off+4,none⟩=some k4∧w'.cell? ⟨g,off+5,none⟩=some k5∧w'.cell? ⟨g,off+6,none⟩=some k6∧w'.cell? ⟨g,off+7,none⟩=some k7∧w'.cell? ⟨g,off+8,none⟩=some k8∧w'.cell? ⟨g,off+9,none⟩=some k9∧w'.cell? ⟨g,off+10,none⟩=some l0∧w'.cell? ⟨g,off+11,none⟩=some l1∧w'.cell? ⟨g,off+12,none⟩=some l2∧w'.cell? ⟨g,off+13,none⟩=some l3∧w'.cell? ⟨g,off+14,none⟩=some l4∧w'.cell? ⟨g,off+15,none⟩=some l5∧w'.cell? ⟨g,off+16,none⟩=some l6∧w'.cell? ⟨g,off+17,none⟩=some l7∧w'.cell? ⟨g,off+18,none⟩=some l8∧w'.cell? ⟨g,off+19,none⟩=some l9)∧w'.cell? ⟨G,i,none⟩=some (.string T_w))) (fun w h=>h.1) _ _ _ _ ?_;have hHeld:(fun w'=>(w'.cell? ⟨w.heap.size,0,none⟩=some (.int .i64 K)∧w'.cell? ⟨g,off,none⟩=some k0∧w'.cell? ⟨g,off+1,none⟩=some k1∧w'.cell? ⟨g,off+2,none⟩=some k2∧w'.cell? ⟨g,off+3,none⟩=some k3∧w'.cell? ⟨g,off+4,none⟩=some k4∧w'.cell? ⟨g,off+5,none⟩=some k5∧w'.cell? ⟨g,off+6,none⟩=some k6∧w'.cell? ⟨g,off+7,none⟩=some k7∧w'.cell? ⟨g,off+8,none⟩=some k8∧w'.cell? ⟨g,off+9,none⟩=some k9∧w'.cell? ⟨g,off+10,none⟩=some l0∧w'.cell? ⟨g,off+11,none⟩=some l1∧w'.cell? ⟨g,off+12,none⟩=some l2∧w'.cell? ⟨g,off+13,none⟩=some l3∧w'.cell? ⟨g,off+14,none⟩=some l4∧w'.cell? ⟨g,off+15,none⟩=some l5∧w'.cell? ⟨g,off+16,none⟩=some l6∧w'.cell? ⟨g,off+17,none⟩=some l7∧w'.cell? ⟨g,off+18,none⟩=some l8∧w'.cell? ⟨g,off+19,none⟩=some l9)∧w'.cell? ⟨G,i,none⟩=some (.string T_w)) v1:=⟨HS.out _ hb1,cG⟩;refine wpAnyH_take (i:=9) (oi:=_) (v:=?v83) rfl (by kernel_rfl) (by kernel_rfl) (by kernel_rfl) (fun _ _ _ h=>h) (Or.inl ⟨by rfl,?hy83⟩) (by assumption) ?rest83
 case hy83=>(intro w0 hSw;(try dsimp only at hSw);go_simp;try with_reducible rfl)
 try simp only[Act.put,List.setIfInBounds_toArray]
 refine wpAnyH_take (i:=10) (oi:=_) (v:=?v84) rfl (by kernel_rfl) (by kernel_rfl) (by kernel_rfl) (fun _ _ _ h=>h) (Or.inl ⟨by rfl,?hy84⟩) (by assumption) ?rest84
 case hy84=>(intro w0 hSw;(try dsimp only at hSw);go_simp;try with_reducible rfl)
 try simp only[Act.put]
 refine wpAnyH_take (i:=11) (oi:=_) (v:=?v85) rfl (by kernel_rfl) (by kernel_rfl) (by kernel_rfl) (fun _ _ _ h=>h) (Or.inl ⟨by rfl,?hy85⟩) (by assumption) ?rest85
 case hy85=>(intro w0 hSw;(try dsimp only at hSw);go_simp;try with_reducible rfl)
 try simp only[Act.put]
 refine wpAnyH_ready (rs:=[15]) (by kernel_rfl) (by simp) ?_;refine AllReadyH.cons (o:=_) rfl (fun K hK=>?_) AllReadyH.nil;go_simp
 go_at_call 14
 (with_reducible refine(HC1.out _ hb1).mono ?_);rintro e v2 ⟨rfl,hz2⟩
 have hb2:Below W1.heap.size W1 v2:=below_tr' hb1 hz2;refine hK.out _ _ (⟨HS.out _ hb2,(hz2.cell (p:=⟨G,i,none⟩) hGl).trans cG⟩) (fun hHeld=>?_);clear hK K;try simp only[Act.put,List.setIfInBounds_toArray,List.set_cons_zero,List.set_cons_succ]
 refine wpAnyH_take (i:=16) (oi:=_) (v:=?v86) rfl (by kernel_rfl) (by kernel_rfl) (by kernel_rfl) (fun _ _ _ h=>h) (Or.inl ⟨by rfl,?hy86⟩) (by assumption) ?rest86
 case hy86=>(intro w0 hSw;(try dsimp only at hSw);go_simp;try with_reducible rfl)
 try simp only[Act.put,List.setIfInBounds_toArray]
 refine wpAnyH_take (i:=17) (oi:=_) (v:=?v87) rfl (by kernel_rfl) (by kernel_rfl) (by kernel_rfl) (fun _ _ _ h=>h) (Or.inl ⟨by rfl,?hy87⟩) (by assumption) ?rest87
 case hy87=>(intro w0 hSw;(try dsimp only at hSw);go_simp;try with_reducible rfl)
 try simp only[Act.put]
 refine wpAnyH_take (i:=18) (oi:=_) (v:=?v88) rfl (by kernel_rfl) (by kernel_rfl) (by kernel_rfl) (fun _ _ _ h=>h) (Or.inl ⟨by rfl,?hy88⟩) (by assumption) ?rest88
 case hy88=>(intro w0 hSw;(try dsimp only at hSw);go_simp;try with_reducible rfl)
 try simp only[Act.put]
 refine wpAnyH_done (by kernel_rfl) ?_ _;go_wp2_with fail
 go_ret;exact⟨ret_val (by rw[HE.out]<;>rfl),hB.trans (hb2.mono hB.size)⟩
end Go.Proofs.YtaaaaggmhjhkkaaGreatDoor
