/-
  Bs6 in one text.
-/
import Derived.Test.YtepaaochgljcdaaGreatDoorS11
import Derived.Test.YtepaaochgljcdaaGreatDoorCl
set_option maxRecDepth 100000
set_option maxHeartbeats 4000000
namespace Go.Proofs.YtepaaochgljcdaaGreatDoor
open Go.RowKit
theorem pReadCmd_neg (s:ByteArray) (k:Int) (hn:k<0) (w:World) :
  Calls Tryz.prog 8 #[.string s,.int .i64 k] w (Gives (.tuple #[.agg #[.int .i64 0,.int .i64 0,.int .i64 0,.int .i64 0,.int .i64 0,.int .i64 0,.int .i64 0,.float .f64 0,.string ⟨#[]⟩,.slice none 0 0,.slice none 0 0,.int .i64 0,.int .i64 0,.float .f64 0,.string ⟨#[]⟩,.slice none 0 0,.slice none 0 0],.int .i64 0,.int .i64 3]) w):=by
 have hsf:∀ (a:Addr) (x:Nat) (m:Mode) (w:World),(store a (.float .f64 x) m).run Tryz.prog w=stored Tryz.prog w a (.float .f64 x) m:=fun a x m w=>run_store _ w a _ m rfl
 have h0:=heap_alloc_new w (.cells #[.int .i64 0,.int .i64 0,.int .i64 0,.int .i64 0,.int .i64 0,.int .i64 0,.int .i64 0,.float .f64 0,.string ⟨#[]⟩,.slice none 0 0,.slice none 0 0,.int .i64 0,.int .i64 0,.float .f64 0,.string ⟨#[]⟩,.slice none 0 0,.slice none 0 0] 30);have f0:=(Below.refl w.heap.size w).alloc (Nat.le_refl _) (.cells #[.int .i64 0,.int .i64 0,.int .i64 0,.int .i64 0,.int .i64 0,.int .i64 0,.int .i64 0,.float .f64 0,.string ⟨#[]⟩,.slice none 0 0,.slice none 0 0,.int .i64 0,.int .i64 0,.float .f64 0,.string ⟨#[]⟩,.slice none 0 0,.slice none 0 0] 30);have hz1:(w.alloc (.cells #[.int .i64 0,.int .i64 0,.int .i64 0,.int .i64 0,.int .i64 0,.int .i64 0,.int .i64 0,.float .f64 0,.string ⟨#[]⟩,.slice none 0 0,.slice none 0 0,.int .i64 0,.int .i64 0,.float .f64 0,.string ⟨#[]⟩,.slice none 0 0,.slice none 0 0] 30)).heap.size=w.heap.size+1:=by simp
 generalize hW1:w.alloc (.cells #[.int .i64 0,.int .i64 0,.int .i64 0,.int .i64 0,.int .i64 0,.int .i64 0,.int .i64 0,.float .f64 0,.string ⟨#[]⟩,.slice none 0 0,.slice none 0 0,.int .i64 0,.int .i64 0,.float .f64 0,.string ⟨#[]⟩,.slice none 0 0,.slice none 0 0] 30)=W1 at *;have h1:=heap_alloc_new W1 (.cells #[.int .i64 0] 33);have f1:=(Below.refl W1.heap.size W1).alloc (Nat.le_refl _) (.cells #[.int .i64 0] 33);have hz2:(W1.alloc (.cells #[.int .i64 0] 33)).heap.size=w.heap.size+2:=by simp[hz1]
 generalize hW2:W1.alloc (.cells #[.int .i64 0] 33)=W2 at *;rw[hz1]at h1;have h0:=(f1.block _ (lt_of_block h0)).trans h0;have HB:=zh (below_tr' f0 f1);have HW1:=zh hW1;have HW2:=zh hW2;have HZ:=zh hz2;clear hW1 hW2 f0 f1 hz1 hz2;have k0:W2.cell? ⟨w.heap.size,0,none⟩=some (.int .i64 0):=by rw[zc h0];rfl
 have z0:W2.frozen? ⟨w.heap.size,0,none⟩=false:=Lib.frozen_of_heap h0 0;have k1:W2.cell? ⟨w.heap.size,1,none⟩=some (.int .i64 0):=by rw[zc h0];rfl
 have z1:W2.frozen? ⟨w.heap.size,1,none⟩=false:=Lib.frozen_of_heap h0 1;have k2:W2.cell? ⟨w.heap.size,2,none⟩=some (.int .i64 0):=by rw[zc h0];rfl
 have z2:W2.frozen? ⟨w.heap.size,2,none⟩=false:=Lib.frozen_of_heap h0 2;have k3:W2.cell? ⟨w.heap.size,3,none⟩=some (.int .i64 0):=by rw[zc h0];rfl
 have z3:W2.frozen? ⟨w.heap.size,3,none⟩=false:=Lib.frozen_of_heap h0 3;have k4:W2.cell? ⟨w.heap.size,4,none⟩=some (.int .i64 0):=by rw[zc h0];rfl
 have z4:W2.frozen? ⟨w.heap.size,4,none⟩=false:=Lib.frozen_of_heap h0 4;have k5:W2.cell? ⟨w.heap.size,5,none⟩=some (.int .i64 0):=by rw[zc h0];rfl
 have z5:W2.frozen? ⟨w.heap.size,5,none⟩=false:=Lib.frozen_of_heap h0 5;have k6:W2.cell? ⟨w.heap.size,6,none⟩=some (.int .i64 0):=by rw[zc h0];rfl
 have z6:W2.frozen? ⟨w.heap.size,6,none⟩=false:=Lib.frozen_of_heap h0 6;have k7:W2.cell? ⟨w.heap.size,7,none⟩=some (.float .f64 0):=by rw[zc h0];rfl
 have z7:W2.frozen? ⟨w.heap.size,7,none⟩=false:=Lib.frozen_of_heap h0 7;have k8:W2.cell? ⟨w.heap.size,8,none⟩=some (.string ⟨#[]⟩):=by rw[zc h0];rfl
 have z8:W2.frozen? ⟨w.heap.size,8,none⟩=false:=Lib.frozen_of_heap h0 8;have k9:W2.cell? ⟨w.heap.size,9,none⟩=some (.slice none 0 0):=by rw[zc h0];rfl
 have z9:W2.frozen? ⟨w.heap.size,9,none⟩=false:=Lib.frozen_of_heap h0 9;have k10:W2.cell? ⟨w.heap.size,10,none⟩=some (.slice none 0 0):=by rw[zc h0];rfl
 have z10:W2.frozen? ⟨w.heap.size,10,none⟩=false:=Lib.frozen_of_heap h0 10;have k11:W2.cell? ⟨w.heap.size,11,none⟩=some (.int .i64 0):=by rw[zc h0];rfl
 have z11:W2.frozen? ⟨w.heap.size,11,none⟩=false:=Lib.frozen_of_heap h0 11;have k12:W2.cell? ⟨w.heap.size,12,none⟩=some (.int .i64 0):=by rw[zc h0];rfl
 have z12:W2.frozen? ⟨w.heap.size,12,none⟩=false:=Lib.frozen_of_heap h0 12;have k13:W2.cell? ⟨w.heap.size,13,none⟩=some (.float .f64 0):=by rw[zc h0];rfl
 have z13:W2.frozen? ⟨w.heap.size,13,none⟩=false:=Lib.frozen_of_heap h0 13;have k14:W2.cell? ⟨w.heap.size,14,none⟩=some (.string ⟨#[]⟩):=by rw[zc h0];rfl
 have z14:W2.frozen? ⟨w.heap.size,14,none⟩=false:=Lib.frozen_of_heap h0 14;have k15:W2.cell? ⟨w.heap.size,15,none⟩=some (.slice none 0 0):=by rw[zc h0];rfl
 have z15:W2.frozen? ⟨w.heap.size,15,none⟩=false:=Lib.frozen_of_heap h0 15;have k16:W2.cell? ⟨w.heap.size,16,none⟩=some (.slice none 0 0):=by rw[zc h0];rfl
 have z16:W2.frozen? ⟨w.heap.size,16,none⟩=false:=Lib.frozen_of_heap h0 16;have t1:decide (k<0)=true:=by simpa using hn
 go_enter_defers Tryz.func8,Tryz.ntmps8
 go_upto_region 2 with (fail)
 rw[HW1.out,HW2.out];go_cut [5,6] from 5 to 17 (fun a p wx=>a=.int .i64 0∧p=.pointer (some ⟨w.heap.size+1,0,none⟩)∧wx.heap[w.heap.size]?=some (.cells #[.int .i64 0,.int .i64 0,.int .i64 0,.int .i64 0,.int .i64 0,.int .i64 0,.int .i64 0,.float .f64 0,.string ⟨#[]⟩,.slice none 0 0,.slice none 0 0,.int .i64 0,.int .i64 0,.float .f64 0,.string ⟨#[]⟩,.slice none 0 0,.slice none 0 0] 30 (0,0))∧wx.heap[w.heap.size+1]?=some (.cells #[.int .i64 3] 33 (0,0))∧Below w.heap.size w wx)
 case first =>
  refine wp_region_list ?_;refine wpList_do rfl (v:=.agg #[.int .i64 0,.int .i64 0,.int .i64 0,.int .i64 0,.int .i64 0,.int .i64 0,.int .i64 0,.float .f64 0,.string ⟨#[]⟩,.slice none 0 0,.slice none 0 0,.int .i64 0,.int .i64 0,.float .f64 0,.string ⟨#[]⟩,.slice none 0 0,.slice none 0 0]) (w':=W2) (by simp[execOp,Act.eval,Instr.loadAt,Instr.sureAddr,loadVar,go_sem,k0,k1,k2,k3,k4,k5,k6,k7,k8,k9,k10,k11,k12,k13,k14,k15,k16]) ?_;refine wpList_rown rfl rfl rfl rfl rfl (n:=17) (by kernel_rfl) h0 rfl rfl (List.all_eq_true.1 (by kernel_rfl)) ?_;intro w3 hgF FF;refine wpList_do rfl (v:=.int .i64 0) (w':=w3) rfl ?_;refine wpList_rown rfl rfl rfl rfl (l:=#[.int .i64 3]) rfl (n:=1) (by kernel_rfl) (FF.at h1 (by simp)) rfl rfl (List.all_eq_true.1 (by kernel_rfl)) ?_;intro w4 hgE FE;simp only[wpList,Act.put,List.setIfInBounds_toArray,List.set_cons_zero,List.set_cons_succ];have hfin:Below w.heap.size w w4:=HB.out.trans (((FF.mono (m:=[w.heap.size,w.heap.size+1]) (by simp)).trans (FE.mono (by simp))).below (by have:=HZ.out;omega) (by simp));go_wp2_with fail
  go_meet;exact⟨rfl,rfl,FE.at hgF (by simp),hgE,hfin⟩
 case rest =>
  obtain⟨rfl,rfl,hgF,hgE,hfin⟩:=hcut;have hc3:wc.cell? ⟨w.heap.size+1,0,none⟩=some (.int .i64 3):=by rw[zc hgE];rfl
  clear h0 h1 k0 z0 k1 z1 k2 z2 k3 z3 k4 z4 k5 z5 k6 z6 k7 z7 k8 z8 k9 z9 k10 z10 k11 z11 k12 z12 k13 z13 k14 z14 k15 z15 k16 z16;obtain⟨y0,y1,y2,y3,y4,y5,y6,y7,y8,y9,y10,y11,y12,y13,y14,y15,y16⟩:=cells17 hgF;go_wp2_with fail
  simp only[bodyPostD,Leaves];exact⟨.tuple #[.agg #[.int .i64 0,.int .i64 0,.int .i64 0,.int .i64 0,.int .i64 0,.int .i64 0,.int .i64 0,.float .f64 0,.string ⟨#[]⟩,.slice none 0 0,.slice none 0 0,.int .i64 0,.int .i64 0,.float .f64 0,.string ⟨#[]⟩,.slice none 0 0,.slice none 0 0],.int .i64 0,.int .i64 3],by simp[results,Tryz.results8,go_sem,y0,y1,y2,y3,y4,y5,y6,y7,y8,y9,y10,y11,y12,y13,y14,y15,y16,hc3],rfl,hfin⟩
theorem pReadCmd_far (s:ByteArray) (k:Int) (hn:¬ k<0) (t3:(s.size:Int)<k) (w:World) :
  Calls Tryz.prog 8 #[.string s,.int .i64 k] w (Gives (.tuple #[.agg #[.int .i64 0,.int .i64 0,.int .i64 0,.int .i64 0,.int .i64 0,.int .i64 0,.int .i64 0,.float .f64 0,.string ⟨#[]⟩,.slice none 0 0,.slice none 0 0,.int .i64 0,.int .i64 0,.float .f64 0,.string ⟨#[]⟩,.slice none 0 0,.slice none 0 0],.int .i64 0,.int .i64 3]) w):=by
 have hsf:∀ (a:Addr) (x:Nat) (m:Mode) (w:World),(store a (.float .f64 x) m).run Tryz.prog w=stored Tryz.prog w a (.float .f64 x) m:=fun a x m w=>run_store _ w a _ m rfl
 have h0:=heap_alloc_new w (.cells #[.int .i64 0,.int .i64 0,.int .i64 0,.int .i64 0,.int .i64 0,.int .i64 0,.int .i64 0,.float .f64 0,.string ⟨#[]⟩,.slice none 0 0,.slice none 0 0,.int .i64 0,.int .i64 0,.float .f64 0,.string ⟨#[]⟩,.slice none 0 0,.slice none 0 0] 30);have f0:=(Below.refl w.heap.size w).alloc (Nat.le_refl _) (.cells #[.int .i64 0,.int .i64 0,.int .i64 0,.int .i64 0,.int .i64 0,.int .i64 0,.int .i64 0,.float .f64 0,.string ⟨#[]⟩,.slice none 0 0,.slice none 0 0,.int .i64 0,.int .i64 0,.float .f64 0,.string ⟨#[]⟩,.slice none 0 0,.slice none 0 0] 30);have hz1:(w.alloc (.cells #[.int .i64 0,.int .i64 0,.int .i64 0,.int .i64 0,.int .i64 0,.int .i64 0,.int .i64 0,.float .f64 0,.string ⟨#[]⟩,.slice none 0 0,.slice none 0 0,.int .i64 0,.int .i64 0,.float .f64 0,.string ⟨#[]⟩,.slice none 0 0,.slice none 0 0] 30)).heap.size=w.heap.size+1:=by simp
 generalize hW1:w.alloc (.cells #[.int .i64 0,.int .i64 0,.int .i64 0,.int .i64 0,.int .i64 0,.int .i64 0,.int .i64 0,.float .f64 0,.string ⟨#[]⟩,.slice none 0 0,.slice none 0 0,.int .i64 0,.int .i64 0,.float .f64 0,.string ⟨#[]⟩,.slice none 0 0,.slice none 0 0] 30)=W1 at *;have h1:=heap_alloc_new W1 (.cells #[.int .i64 0] 33);have f1:=(Below.refl W1.heap.size W1).alloc (Nat.le_refl _) (.cells #[.int .i64 0] 33);have hz2:(W1.alloc (.cells #[.int .i64 0] 33)).heap.size=w.heap.size+2:=by simp[hz1]
 generalize hW2:W1.alloc (.cells #[.int .i64 0] 33)=W2 at *;rw[hz1]at h1;have h0:=(f1.block _ (lt_of_block h0)).trans h0;have HB:=zh (below_tr' f0 f1);have HW1:=zh hW1;have HW2:=zh hW2;have HZ:=zh hz2;clear hW1 hW2 f0 f1 hz1 hz2;have k0:W2.cell? ⟨w.heap.size,0,none⟩=some (.int .i64 0):=by rw[zc h0];rfl
 have z0:W2.frozen? ⟨w.heap.size,0,none⟩=false:=Lib.frozen_of_heap h0 0;have k1:W2.cell? ⟨w.heap.size,1,none⟩=some (.int .i64 0):=by rw[zc h0];rfl
 have z1:W2.frozen? ⟨w.heap.size,1,none⟩=false:=Lib.frozen_of_heap h0 1;have k2:W2.cell? ⟨w.heap.size,2,none⟩=some (.int .i64 0):=by rw[zc h0];rfl
 have z2:W2.frozen? ⟨w.heap.size,2,none⟩=false:=Lib.frozen_of_heap h0 2;have k3:W2.cell? ⟨w.heap.size,3,none⟩=some (.int .i64 0):=by rw[zc h0];rfl
 have z3:W2.frozen? ⟨w.heap.size,3,none⟩=false:=Lib.frozen_of_heap h0 3;have k4:W2.cell? ⟨w.heap.size,4,none⟩=some (.int .i64 0):=by rw[zc h0];rfl
 have z4:W2.frozen? ⟨w.heap.size,4,none⟩=false:=Lib.frozen_of_heap h0 4;have k5:W2.cell? ⟨w.heap.size,5,none⟩=some (.int .i64 0):=by rw[zc h0];rfl
 have z5:W2.frozen? ⟨w.heap.size,5,none⟩=false:=Lib.frozen_of_heap h0 5;have k6:W2.cell? ⟨w.heap.size,6,none⟩=some (.int .i64 0):=by rw[zc h0];rfl
 have z6:W2.frozen? ⟨w.heap.size,6,none⟩=false:=Lib.frozen_of_heap h0 6;have k7:W2.cell? ⟨w.heap.size,7,none⟩=some (.float .f64 0):=by rw[zc h0];rfl
 have z7:W2.frozen? ⟨w.heap.size,7,none⟩=false:=Lib.frozen_of_heap h0 7;have k8:W2.cell? ⟨w.heap.size,8,none⟩=some (.string ⟨#[]⟩):=by rw[zc h0];rfl
 have z8:W2.frozen? ⟨w.heap.size,8,none⟩=false:=Lib.frozen_of_heap h0 8;have k9:W2.cell? ⟨w.heap.size,9,none⟩=some (.slice none 0 0):=by rw[zc h0];rfl
 have z9:W2.frozen? ⟨w.heap.size,9,none⟩=false:=Lib.frozen_of_heap h0 9;have k10:W2.cell? ⟨w.heap.size,10,none⟩=some (.slice none 0 0):=by rw[zc h0];rfl
 have z10:W2.frozen? ⟨w.heap.size,10,none⟩=false:=Lib.frozen_of_heap h0 10;have k11:W2.cell? ⟨w.heap.size,11,none⟩=some (.int .i64 0):=by rw[zc h0];rfl
 have z11:W2.frozen? ⟨w.heap.size,11,none⟩=false:=Lib.frozen_of_heap h0 11;have k12:W2.cell? ⟨w.heap.size,12,none⟩=some (.int .i64 0):=by rw[zc h0];rfl
 have z12:W2.frozen? ⟨w.heap.size,12,none⟩=false:=Lib.frozen_of_heap h0 12;have k13:W2.cell? ⟨w.heap.size,13,none⟩=some (.float .f64 0):=by rw[zc h0];rfl
 have z13:W2.frozen? ⟨w.heap.size,13,none⟩=false:=Lib.frozen_of_heap h0 13;have k14:W2.cell? ⟨w.heap.size,14,none⟩=some (.string ⟨#[]⟩):=by rw[zc h0];rfl
 have z14:W2.frozen? ⟨w.heap.size,14,none⟩=false:=Lib.frozen_of_heap h0 14;have k15:W2.cell? ⟨w.heap.size,15,none⟩=some (.slice none 0 0):=by rw[zc h0];rfl
 have z15:W2.frozen? ⟨w.heap.size,15,none⟩=false:=Lib.frozen_of_heap h0 15;have k16:W2.cell? ⟨w.heap.size,16,none⟩=some (.slice none 0 0):=by rw[zc h0];rfl
 have z16:W2.frozen? ⟨w.heap.size,16,none⟩=false:=Lib.frozen_of_heap h0 16;have t1:decide (k<0)=false:=by simpa using hn
 have t2:decide ((s.size:Int)<k)=true:=by simpa using t3
 go_enter_defers Tryz.func8,Tryz.ntmps8
 go_upto_region 2 with (fail)
 rw[HW1.out,HW2.out];go_cut [5,6] from 5 to 17 (fun a p wx=>a=.int .i64 0∧p=.pointer (some ⟨w.heap.size+1,0,none⟩)∧wx.heap[w.heap.size]?=some (.cells #[.int .i64 0,.int .i64 0,.int .i64 0,.int .i64 0,.int .i64 0,.int .i64 0,.int .i64 0,.float .f64 0,.string ⟨#[]⟩,.slice none 0 0,.slice none 0 0,.int .i64 0,.int .i64 0,.float .f64 0,.string ⟨#[]⟩,.slice none 0 0,.slice none 0 0] 30 (0,0))∧wx.heap[w.heap.size+1]?=some (.cells #[.int .i64 3] 33 (0,0))∧Below w.heap.size w wx)
 case first =>
  refine wp_region_list ?_;refine wpList_do rfl (v:=.agg #[.int .i64 0,.int .i64 0,.int .i64 0,.int .i64 0,.int .i64 0,.int .i64 0,.int .i64 0,.float .f64 0,.string ⟨#[]⟩,.slice none 0 0,.slice none 0 0,.int .i64 0,.int .i64 0,.float .f64 0,.string ⟨#[]⟩,.slice none 0 0,.slice none 0 0]) (w':=W2) (by simp[execOp,Act.eval,Instr.loadAt,Instr.sureAddr,loadVar,go_sem,k0,k1,k2,k3,k4,k5,k6,k7,k8,k9,k10,k11,k12,k13,k14,k15,k16]) ?_;refine wpList_rown rfl rfl rfl rfl rfl (n:=17) (by kernel_rfl) h0 rfl rfl (List.all_eq_true.1 (by kernel_rfl)) ?_;intro w3 hgF FF;refine wpList_do rfl (v:=.int .i64 0) (w':=w3) rfl ?_;refine wpList_rown rfl rfl rfl rfl (l:=#[.int .i64 3]) rfl (n:=1) (by kernel_rfl) (FF.at h1 (by simp)) rfl rfl (List.all_eq_true.1 (by kernel_rfl)) ?_;intro w4 hgE FE;simp only[wpList,Act.put,List.setIfInBounds_toArray,List.set_cons_zero,List.set_cons_succ];have hfin:Below w.heap.size w w4:=HB.out.trans (((FF.mono (m:=[w.heap.size,w.heap.size+1]) (by simp)).trans (FE.mono (by simp))).below (by have:=HZ.out;omega) (by simp));go_wp2_with fail
  go_meet;exact⟨rfl,rfl,FE.at hgF (by simp),hgE,hfin⟩
 case rest =>
  obtain⟨rfl,rfl,hgF,hgE,hfin⟩:=hcut;have hc3:wc.cell? ⟨w.heap.size+1,0,none⟩=some (.int .i64 3):=by rw[zc hgE];rfl
  clear h0 h1 k0 z0 k1 z1 k2 z2 k3 z3 k4 z4 k5 z5 k6 z6 k7 z7 k8 z8 k9 z9 k10 z10 k11 z11 k12 z12 k13 z13 k14 z14 k15 z15 k16 z16;obtain⟨y0,y1,y2,y3,y4,y5,y6,y7,y8,y9,y10,y11,y12,y13,y14,y15,y16⟩:=cells17 hgF;go_wp2_with fail
  simp only[bodyPostD,Leaves];exact⟨.tuple #[.agg #[.int .i64 0,.int .i64 0,.int .i64 0,.int .i64 0,.int .i64 0,.int .i64 0,.int .i64 0,.float .f64 0,.string ⟨#[]⟩,.slice none 0 0,.slice none 0 0,.int .i64 0,.int .i64 0,.float .f64 0,.string ⟨#[]⟩,.slice none 0 0,.slice none 0 0],.int .i64 0,.int .i64 3],by simp[results,Tryz.results8,go_sem,y0,y1,y2,y3,y4,y5,y6,y7,y8,y9,y10,y11,y12,y13,y14,y15,y16,hc3],rfl,hfin⟩
end Go.Proofs.YtepaaochgljcdaaGreatDoor
