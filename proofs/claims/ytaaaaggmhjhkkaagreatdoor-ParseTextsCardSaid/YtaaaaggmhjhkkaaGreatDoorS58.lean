/-
  Hl, Hm in one text.
-/
import Derived.Test.YtaaaaggmhjhkkaaGreatDoorS38
import Derived.Test.YtaaaaggmhjhkkaaGreatDoorS45
import Derived.Test.YtaaaaggmhjhkkaaGreatDoorS57
import Derived.Test.YtaaaaggmhjhkkaaGreatDoorCl
set_option maxRecDepth 100000
set_option maxHeartbeats 2000000
namespace Go.Proofs.YtaaaaggmhjhkkaaGreatDoor
section
open Go.RowKit
theorem text8_all:∀ d,TE d
 | 0=>fun _ _ _ _ h=>h.elim
 | d+1=>fun x cs far w h hr hi hz=>by
  have IH:=text8_all d;obtain⟨k1,k2⟩:=rightE_kind hr;rcases(by omega:x.kind=1∨x.kind=2∨x.kind=3∨x.kind=4∨x.kind=5∨x.kind=6∨x.kind=7∨x.kind=8∨x.kind=9∨x.kind=10∨x.kind=11∨x.kind=12∨x.kind=13∨x.kind=14∨x.kind=15∨x.kind=16∨x.kind=17∨x.kind=18∨x.kind=19∨x.kind=20∨x.kind=21∨x.kind=22∨x.kind=23)with k|k|k|k|k|k|k|k|k|k|k|k|k|k|k|k|k|k|k|k|k|k|k
  ·exact text8_1 d IH x cs far w h hr hi hz k
  ·exact text8_2 d IH x cs far w h hr hi hz k
  ·exact text8_3 d IH x cs far w h hr hi hz k
  ·exact text8_4 d IH x cs far w h hr hi hz k
  ·exact text8_s d IH x cs far w h hr hi hz 5 0 (by decide) (by decide) k
  ·exact text8_s d IH x cs far w h hr hi hz 6 1 (by decide) (by decide) k
  ·exact text8_s d IH x cs far w h hr hi hz 7 2 (by decide) (by decide) k
  ·exact text8_s d IH x cs far w h hr hi hz 8 3 (by decide) (by decide) k
  ·exact text8_s d IH x cs far w h hr hi hz 9 4 (by decide) (by decide) k
  ·exact text8_s d IH x cs far w h hr hi hz 10 5 (by decide) (by decide) k
  ·exact text8_s d IH x cs far w h hr hi hz 11 6 (by decide) (by decide) k
  ·exact text8_s d IH x cs far w h hr hi hz 12 7 (by decide) (by decide) k
  ·exact text8_s d IH x cs far w h hr hi hz 13 8 (by decide) (by decide) k
  ·exact text8_s d IH x cs far w h hr hi hz 14 9 (by decide) (by decide) k
  ·exact text8_15 d IH x cs far w h hr hi hz k
  ·exact text8_16 d IH x cs far w h hr hi hz k
  ·exact text8_17 d IH x cs far w h hr hi hz k
  ·exact text8_18 d IH x cs far w h hr hi hz k
  ·exact text8_19 d IH x cs far w h hr hi hz k
  ·exact text8_20 d IH x cs far w h hr hi hz k
  ·exact text8_21 d IH x cs far w h hr hi hz k
  ·exact text8_22 d IH x cs far w h hr hi hz k
  ·exact text8_23 d IH x cs far w h hr hi hz k
theorem rText8_any (d:Nat) (x:ET) (cs:Array Value) (w:World) (h:ExAt' w d x cs) (hr:rightEx x=true):Calls Tryz.prog 14 #[.agg cs] w (Gives (.string ⟨(textE x).toArray⟩) w):=by
 have hi:=h.inE;unfold rightEx at hr;simp only[Bool.and_eq_true,decide_eq_true_eq]at hr;have h2:=count_sz x 0 (by omega);exact text8_all d x cs 12 w h hr.2 hi (by omega)
end
section
open Go.RowKit
theorem texts_any (d:Nat) (x:ET) (cs:Array Value) (w:World) (hEn:Env w) (h:ExAt' w d x cs):Calls Tryz.prog 3 #[.agg cs] w (Gives (.bool true) w):=by
 obtain⟨q1,r1,s1,u1,n1,m1,k1,l1,rfl⟩:=h.form4;have hB:Below w.heap.size w (w.alloc (.cells #[.int .i64 x.kind,.string ⟨x.str.toArray⟩,.int .i64 x.v.kind,.int .i64 x.v.num,.float .f64 x.v.flt,.string ⟨x.v.str.toArray⟩,.slice q1 x.v.names.length r1,.slice s1 x.v.items.length u1,.slice n1 x.names.length m1,.slice k1 x.kids.length l1] 29)):=(Below.refl _ _).alloc (Nat.le_refl _) _;have hnew:=heap_alloc_new w (.cells #[.int .i64 x.kind,.string ⟨x.str.toArray⟩,.int .i64 x.v.kind,.int .i64 x.v.num,.float .f64 x.v.flt,.string ⟨x.v.str.toArray⟩,.slice q1 x.v.names.length r1,.slice s1 x.v.items.length u1,.slice n1 x.names.length m1,.slice k1 x.kids.length l1] 29);have hx1:=h.keptA hB;have hE1:=hEn.below hB;obtain⟨W1,hW⟩:∃ W1,W1=w.alloc (.cells #[.int .i64 x.kind,.string ⟨x.str.toArray⟩,.int .i64 x.v.kind,.int .i64 x.v.num,.float .f64 x.v.flt,.string ⟨x.v.str.toArray⟩,.slice q1 x.v.names.length r1,.slice s1 x.v.items.length u1,.slice n1 x.names.length m1,.slice k1 x.kids.length l1] 29):=⟨_,rfl⟩;rw[←hW]at hB hnew hx1 hE1;have HW:=zh hW.symm;have HNew:=zh hnew;have HLt:=zh (lt_of_block hnew);have HUp:=zh (fun w' (hb:Below W1.heap.size W1 w')=>(show Below w.heap.size w w' from hB.trans (hb.mono hB.size)));have HAw:=zh (fun w' (hb:Below W1.heap.size W1 w')=>awake8_any w' (hE1.below hb));have HSm:=zh (fun w' (hb:Below W1.heap.size W1 w')=>rsmallE_any d x _ w' (hx1.keptA hb));have HRt:=zh (fun w' (hb:Below W1.heap.size W1 w')=>rRight8_any d x _ w' (hx1.keptA hb));have HPr:=zh (fun w' (hb:Below W1.heap.size W1 w')=>pRight_any d x _ w' (hx1.keptA hb));have HPp:=zh (fun w' (hb:Below W1.heap.size W1 w')=>pParts_any d x _ w' (hx1.keptA hb));have HRp:=zh (fun w' (hb:Below W1.heap.size W1 w')=>rpartsE_any d x _ w' (hx1.keptA hb));have HTx:=zh (fun w' (hb:Below W1.heap.size W1 w')=>pText_any d x _ w' (hE1.below hb) (hx1.keptA hb));have HT8:=zh (fun(hr:rightEx x=true) w' (hb:Below W1.heap.size W1 w')=>rText8_any d x _ w' (hx1.keptA hb) hr);have HS:Hid (∀ w',Below W1.heap.size W1 w'→w'.cell? ⟨w.heap.size,0,none⟩=some (.int .i64 x.kind)∧w'.cell? ⟨w.heap.size,1,none⟩=some (.string ⟨x.str.toArray⟩)∧w'.cell? ⟨w.heap.size,2,none⟩=some (.int .i64 x.v.kind)∧w'.cell? ⟨w.heap.size,3,none⟩=some (.int .i64 x.v.num)∧w'.cell? ⟨w.heap.size,4,none⟩=some (.float .f64 x.v.flt)∧w'.cell? ⟨w.heap.size,5,none⟩=some (.string ⟨x.v.str.toArray⟩)∧w'.cell? ⟨w.heap.size,6,none⟩=some (.slice q1 x.v.names.length r1)∧w'.cell? ⟨w.heap.size,7,none⟩=some (.slice s1 x.v.items.length u1)∧w'.cell? ⟨w.heap.size,8,none⟩=some (.slice n1 x.names.length m1)∧w'.cell? ⟨w.heap.size,9,none⟩=some (.slice k1 x.kids.length l1)):=zh (fun w' hb=>⟨by rw[zc ((hb.block _ HLt.out).trans HNew.out)];rfl,by rw[zc ((hb.block _ HLt.out).trans HNew.out)];rfl,by rw[zc ((hb.block _ HLt.out).trans HNew.out)];rfl,by rw[zc ((hb.block _ HLt.out).trans HNew.out)];rfl,by rw[zc ((hb.block _ HLt.out).trans HNew.out)];rfl,by rw[zc ((hb.block _ HLt.out).trans HNew.out)];rfl,by rw[zc ((hb.block _ HLt.out).trans HNew.out)];rfl,by rw[zc ((hb.block _ HLt.out).trans HNew.out)];rfl,by rw[zc ((hb.block _ HLt.out).trans HNew.out)];rfl,by rw[zc ((hb.block _ HLt.out).trans HNew.out)];rfl⟩);clear hW hnew h hx1 hE1 hB;cases hs:smallE x
 ·rw[hs]at HSm;clear hs;go_in;go_upto_region 1 with (fail)
  rw[HW.out];obtain⟨a0,a1,a2,a3,a4,a5,a6,a7,a8,a9⟩:=cells10 HNew.out;go_wp2_with fail
  refine(HAw.out _ (Below.refl W1.heap.size W1)).mono ?_;rintro e w2 ⟨rfl,hc⟩;have hb2:=below_tr' (Below.refl W1.heap.size W1) hc;clear hc;clear a0 a1 a2 a3 a4 a5 a6 a7 a8 a9;have hn2:=(hb2.block _ HLt.out).trans HNew.out;obtain⟨a0,a1,a2,a3,a4,a5,a6,a7,a8,a9⟩:=cells10 hn2;clear hn2;go_wp2_with fail
  refine(HSm.out _ hb2).mono ?_;rintro e w3 ⟨rfl,hc⟩;have hb3:=below_tr' hb2 hc;clear hc;clear a0 a1 a2 a3 a4 a5 a6 a7 a8 a9;have hn3:=(hb3.block _ HLt.out).trans HNew.out;obtain⟨a0,a1,a2,a3,a4,a5,a6,a7,a8,a9⟩:=cells10 hn3;clear hn3;go_wp2_with fail
  refine(HAw.out _ hb3).mono ?_;rintro e w4 ⟨rfl,hc⟩;go_wp2_with fail
  go_ret;exact⟨ret_val rfl,HUp.out _ (below_tr' hb3 hc)⟩
 ·rw[hs]at HSm;clear hs;generalize countE x 0=N at *;cases hr:rightEx x
  ·rw[hr]at HRt HPr;have hT:textR x=.tuple #[.string ⟨#[]⟩,.int .i64 5]:=by unfold textR;rw[hr];rfl
   rw[hT]at HTx;clear hT hr HT8;go_in;go_upto_region 1 with (fail)
   rw[HW.out];obtain⟨a0,a1,a2,a3,a4,a5,a6,a7,a8,a9⟩:=cells10 HNew.out;go_wp2_with fail
   refine(HAw.out _ (Below.refl W1.heap.size W1)).mono ?_;rintro e w2 ⟨rfl,hc⟩;have hb2:=below_tr' (Below.refl W1.heap.size W1) hc;clear hc;clear a0 a1 a2 a3 a4 a5 a6 a7 a8 a9;have hn2:=(hb2.block _ HLt.out).trans HNew.out;obtain⟨a0,a1,a2,a3,a4,a5,a6,a7,a8,a9⟩:=cells10 hn2;clear hn2;go_wp2_with fail
   refine(HSm.out _ hb2).mono ?_;rintro e w3 ⟨rfl,hc⟩;have hb3:=below_tr' hb2 hc;clear hc;clear a0 a1 a2 a3 a4 a5 a6 a7 a8 a9;have hn3:=(hb3.block _ HLt.out).trans HNew.out;obtain⟨a0,a1,a2,a3,a4,a5,a6,a7,a8,a9⟩:=cells10 hn3;clear hn3;go_wp2_with fail
   refine(HTx.out _ hb3).mono ?_;rintro e w5 ⟨rfl,hc⟩;have hb5:=below_tr' hb3 hc;clear hc;clear a0 a1 a2 a3 a4 a5 a6 a7 a8 a9;have hn5:=(hb5.block _ HLt.out).trans HNew.out;obtain⟨a0,a1,a2,a3,a4,a5,a6,a7,a8,a9⟩:=cells10 hn5;clear hn5;go_wp2_with fail
   go_region_held3 (fun w'=>w'.cell? ⟨w.heap.size,0,none⟩=some (.int .i64 x.kind)∧w'.cell? ⟨w.heap.size,1,none⟩=some (.string ⟨x.str.toArray⟩)∧w'.cell? ⟨w.heap.size,2,none⟩=some (.int .i64 x.v.kind)∧w'.cell? ⟨w.heap.size,3,none⟩=some (.int .i64 x.v.num)∧w'.cell? ⟨w.heap.size,4,none⟩=some (.float .f64 x.v.flt)∧w'.cell? ⟨w.heap.size,5,none⟩=some (.string ⟨x.v.str.toArray⟩)∧w'.cell? ⟨w.heap.size,6,none⟩=some (.slice q1 x.v.names.length r1)∧w'.cell? ⟨w.heap.size,7,none⟩=some (.slice s1 x.v.items.length u1)∧w'.cell? ⟨w.heap.size,8,none⟩=some (.slice n1 x.names.length m1)∧w'.cell? ⟨w.heap.size,9,none⟩=some (.slice k1 x.kids.length l1)) (first|with_reducible exact HS.out _ hd3|with_reducible exact HS.out _ hd3.drew|with_reducible exact HS.out _ hd2|with_reducible exact HS.out _ hd2.drew|with_reducible exact HS.out _ hd1|with_reducible exact HS.out _ hd1.drew|with_reducible exact HS.out _ hd0|with_reducible exact HS.out _ hd0.drew|with_reducible exact HS.out _ hb5|with_reducible exact HS.out _ hb5.drew) (first|(go_at_call 10;(with_reducible refine(HPr.out _ (by first|with_reducible exact hb5|with_reducible exact hb5.drew)).mono ?_);rintro e v0 ⟨rfl,hz0⟩;have hd0:Below W1.heap.size W1 v0:=(by first|exact below_tr' hb5 hz0|exact below_tr' hb5.drew hz0))|(go_at_call 11;(with_reducible refine(HRt.out _ (by first|with_reducible exact hd0|with_reducible exact hd0.drew|with_reducible exact hb5|with_reducible exact hb5.drew)).mono ?_);rintro e v1 ⟨rfl,hz1⟩;have hd1:Below W1.heap.size W1 v1:=(by first|exact below_tr' hd0 hz1|exact below_tr' hd0.drew hz1|exact below_tr' hb5 hz1|exact below_tr' hb5.drew hz1))|(go_at_call 12;(with_reducible refine(HPp.out _ (by first|with_reducible exact hd1|with_reducible exact hd1.drew|with_reducible exact hd0|with_reducible exact hd0.drew|with_reducible exact hb5|with_reducible exact hb5.drew)).mono ?_);rintro e v2 ⟨rfl,hz2⟩;have hd2:Below W1.heap.size W1 v2:=(by first|exact below_tr' hd1 hz2|exact below_tr' hd1.drew hz2|exact below_tr' hd0 hz2|exact below_tr' hd0.drew hz2|exact below_tr' hb5 hz2|exact below_tr' hb5.drew hz2))|(go_at_call 13;(with_reducible refine(HRp.out _ (by first|with_reducible exact hd2|with_reducible exact hd2.drew|with_reducible exact hd1|with_reducible exact hd1.drew|with_reducible exact hd0|with_reducible exact hd0.drew|with_reducible exact hb5|with_reducible exact hb5.drew)).mono ?_);rintro e v3 ⟨rfl,hz3⟩;have hd3:Below W1.heap.size W1 v3:=(by first|exact below_tr' hd2 hz3|exact below_tr' hd2.drew hz3|exact below_tr' hd1 hz3|exact below_tr' hd1.drew hz3|exact below_tr' hd0 hz3|exact below_tr' hd0.drew hz3|exact below_tr' hb5 hz3|exact below_tr' hb5.drew hz3)))
   clear a0 a1 a2 a3 a4 a5 a6 a7 a8 a9;have hb6:Below W1.heap.size W1 v3:=hd3;obtain⟨a0,a1,a2,a3,a4,a5,a6,a7,a8,a9⟩:=HS.out _ hd3.drew;go_wp2_with fail
   refine(HRt.out _ (by first|exact hd3|exact hd3.drew)).mono ?_;rintro e w7 ⟨rfl,hc⟩
   have hb7:Below W1.heap.size W1 w7:=(by first|exact below_tr' hd3 hc|exact below_tr' hd3.drew hc)
   clear hc;clear a0 a1 a2 a3 a4 a5 a6 a7 a8 a9;go_wp2_with fail
   go_ret;exact⟨ret_val rfl,HUp.out _ hb7⟩
  ·rw[hr]at HRt HPr;have hT:textR x=.tuple #[.string ⟨(textE x).toArray⟩,.int .i64 0]:=by unfold textR;rw[if_pos hr]
   rw[hT]at HTx;replace HT8:=zh (HT8.out hr);clear hT hr;generalize (⟨(textE x).toArray⟩:ByteArray)=S at *;go_in;go_upto_region 1 with (fail)
   rw[HW.out];obtain⟨a0,a1,a2,a3,a4,a5,a6,a7,a8,a9⟩:=cells10 HNew.out;go_wp2_with fail
   refine(HAw.out _ (Below.refl W1.heap.size W1)).mono ?_;rintro e w2 ⟨rfl,hc⟩;have hb2:=below_tr' (Below.refl W1.heap.size W1) hc;clear hc;clear a0 a1 a2 a3 a4 a5 a6 a7 a8 a9;have hn2:=(hb2.block _ HLt.out).trans HNew.out;obtain⟨a0,a1,a2,a3,a4,a5,a6,a7,a8,a9⟩:=cells10 hn2;clear hn2;go_wp2_with fail
   refine(HSm.out _ hb2).mono ?_;rintro e w3 ⟨rfl,hc⟩;have hb3:=below_tr' hb2 hc;clear hc;clear a0 a1 a2 a3 a4 a5 a6 a7 a8 a9;have hn3:=(hb3.block _ HLt.out).trans HNew.out;obtain⟨a0,a1,a2,a3,a4,a5,a6,a7,a8,a9⟩:=cells10 hn3;clear hn3;go_wp2_with fail
   refine(HTx.out _ hb3).mono ?_;rintro e w5 ⟨rfl,hc⟩;have hb5:=below_tr' hb3 hc;clear hc;clear a0 a1 a2 a3 a4 a5 a6 a7 a8 a9;have hn5:=(hb5.block _ HLt.out).trans HNew.out;obtain⟨a0,a1,a2,a3,a4,a5,a6,a7,a8,a9⟩:=cells10 hn5;clear hn5;go_wp2_with fail
   go_region_held3 (fun w'=>w'.cell? ⟨w.heap.size,0,none⟩=some (.int .i64 x.kind)∧w'.cell? ⟨w.heap.size,1,none⟩=some (.string ⟨x.str.toArray⟩)∧w'.cell? ⟨w.heap.size,2,none⟩=some (.int .i64 x.v.kind)∧w'.cell? ⟨w.heap.size,3,none⟩=some (.int .i64 x.v.num)∧w'.cell? ⟨w.heap.size,4,none⟩=some (.float .f64 x.v.flt)∧w'.cell? ⟨w.heap.size,5,none⟩=some (.string ⟨x.v.str.toArray⟩)∧w'.cell? ⟨w.heap.size,6,none⟩=some (.slice q1 x.v.names.length r1)∧w'.cell? ⟨w.heap.size,7,none⟩=some (.slice s1 x.v.items.length u1)∧w'.cell? ⟨w.heap.size,8,none⟩=some (.slice n1 x.names.length m1)∧w'.cell? ⟨w.heap.size,9,none⟩=some (.slice k1 x.kids.length l1)) (first|with_reducible exact HS.out _ hd3|with_reducible exact HS.out _ hd3.drew|with_reducible exact HS.out _ hd2|with_reducible exact HS.out _ hd2.drew|with_reducible exact HS.out _ hd1|with_reducible exact HS.out _ hd1.drew|with_reducible exact HS.out _ hd0|with_reducible exact HS.out _ hd0.drew|with_reducible exact HS.out _ hb5|with_reducible exact HS.out _ hb5.drew) (first|(go_at_call 10;(with_reducible refine(HPr.out _ (by first|with_reducible exact hb5|with_reducible exact hb5.drew)).mono ?_);rintro e v0 ⟨rfl,hz0⟩;have hd0:Below W1.heap.size W1 v0:=(by first|exact below_tr' hb5 hz0|exact below_tr' hb5.drew hz0))|(go_at_call 11;(with_reducible refine(HRt.out _ (by first|with_reducible exact hd0|with_reducible exact hd0.drew|with_reducible exact hb5|with_reducible exact hb5.drew)).mono ?_);rintro e v1 ⟨rfl,hz1⟩;have hd1:Below W1.heap.size W1 v1:=(by first|exact below_tr' hd0 hz1|exact below_tr' hd0.drew hz1|exact below_tr' hb5 hz1|exact below_tr' hb5.drew hz1))|(go_at_call 12;(with_reducible refine(HPp.out _ (by first|with_reducible exact hd1|with_reducible exact hd1.drew|with_reducible exact hd0|with_reducible exact hd0.drew|with_reducible exact hb5|with_reducible exact hb5.drew)).mono ?_);rintro e v2 ⟨rfl,hz2⟩;have hd2:Below W1.heap.size W1 v2:=(by first|exact below_tr' hd1 hz2|exact below_tr' hd1.drew hz2|exact below_tr' hd0 hz2|exact below_tr' hd0.drew hz2|exact below_tr' hb5 hz2|exact below_tr' hb5.drew hz2))|(go_at_call 13;(with_reducible refine(HRp.out _ (by first|with_reducible exact hd2|with_reducible exact hd2.drew|with_reducible exact hd1|with_reducible exact hd1.drew|with_reducible exact hd0|with_reducible exact hd0.drew|with_reducible exact hb5|with_reducible exact hb5.drew)).mono ?_);rintro e v3 ⟨rfl,hz3⟩;have hd3:Below W1.heap.size W1 v3:=(by first|exact below_tr' hd2 hz3|exact below_tr' hd2.drew hz3|exact below_tr' hd1 hz3|exact below_tr' hd1.drew hz3|exact below_tr' hd0 hz3|exact below_tr' hd0.drew hz3|exact below_tr' hb5 hz3|exact below_tr' hb5.drew hz3)))
   clear a0 a1 a2 a3 a4 a5 a6 a7 a8 a9;have hb6:Below W1.heap.size W1 v3:=hd3;obtain⟨a0,a1,a2,a3,a4,a5,a6,a7,a8,a9⟩:=HS.out _ hd3.drew;go_wp2_with fail
   refine(HRt.out _ (by first|exact hd3|exact hd3.drew)).mono ?_;rintro e w7 ⟨rfl,hc⟩
   have hb7:Below W1.heap.size W1 w7:=(by first|exact below_tr' hd3 hc|exact below_tr' hd3.drew hc)
   clear hc;clear a0 a1 a2 a3 a4 a5 a6 a7 a8 a9;obtain⟨a0,a1,a2,a3,a4,a5,a6,a7,a8,a9⟩:=HS.out _ hb7;go_wp2_with fail
   refine(HT8.out _ hb7).mono ?_;rintro e w8 ⟨rfl,hc⟩;have hb8:=below_tr' hb7 hc;go_wp2_with fail
   go_ret;exact⟨ret_val (by simp),HUp.out _ hb8⟩
end
end Go.Proofs.YtaaaaggmhjhkkaaGreatDoor
