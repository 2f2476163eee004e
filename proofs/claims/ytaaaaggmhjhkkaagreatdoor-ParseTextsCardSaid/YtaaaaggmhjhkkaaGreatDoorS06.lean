/-
  K1, K2, W6, W7, W8, K3, K4 in one text.
-/
import Derived.Deep.RegionHeld3
import Derived.Lib.SmallJoins
import Derived.Test.YtaaaaggmhjhkkaaGreatDoorS03
import Derived.Test.YtaaaaggmhjhkkaaGreatDoorS05
import Derived.Test.YtaaaaggmhjhkkaaGreatDoorCl
set_option maxRecDepth 100000
set_option maxHeartbeats 2000000
namespace Go.Proofs.YtaaaaggmhjhkkaaGreatDoor
section
open Go.RowKit
/-- the lexer at a place of its text -/
def LexAt (b:Nat) (s:ByteArray) (a:Nat) (w:World):Prop:=w.heap[b]?=some (.cells #[.string s,.int .i64 a] 96 (0,0))
theorem LexAt.c0 {b:Nat} {s:ByteArray} {a:Nat} {w:World} (h:LexAt b s a w):w.cell? ⟨b,0,none⟩=some (.string s):=by rw[zc h];rfl
theorem LexAt.c1 {b:Nat} {s:ByteArray} {a:Nat} {w:World} (h:LexAt b s a w):w.cell? ⟨b,1,none⟩=some (.int .i64 a):=by rw[zc h];rfl
theorem LexAt.f1 {b:Nat} {s:ByteArray} {a:Nat} {w:World} (h:LexAt b s a w):w.frozen? ⟨b,1,none⟩=false:=Lib.frozen_of_heap h 1
theorem LexAt.lt {b:Nat} {s:ByteArray} {a:Nat} {w:World} (h:LexAt b s a w):b<w.heap.size:=by
 exact lt_of_block h
theorem LexAt.kept {b:Nat} {s:ByteArray} {a:Nat} {l:List Nat} {w w':World} (h:LexAt b s a w) (hf:Fr l w w') (hb:b ∉ l):LexAt b s a w':=(hf.block b h.lt hb).trans h
theorem LexAt.drewN {b:Nat} {s:ByteArray} {a:Nat} {w:World} (h:LexAt b s a w) (n:Nat):LexAt b s a (w.drewN n):=h
theorem LexAt.put {b:Nat} {s:ByteArray} {a:Nat} {w:World} (h:LexAt b s a w) (c:Nat):LexAt b s c (w.setCell ⟨b,1,none⟩ (.int .i64 c)):=heap_setN h 1 _
theorem u8_beq (c:UInt8) (n:UInt8):(c==n)=((c.toNat:Int)==(n.toNat:Int)):=by
 rw[Bool.eq_iff_iff,beq_iff_eq,beq_iff_eq,←UInt8.toNat_inj];omega
theorem isBlank_any (c:UInt8) (w:World):Calls Tryz.prog 83 #[.int .u8 c.toNat] w fun e w'=>e=.returned (.bool (isBl c))∧w=w':=by
 have HB:=zh (show isBl c=(((c.toNat:Int)==32||(c.toNat:Int)==9)||(c.toNat:Int)==10||(c.toNat:Int)==13) from by unfold isBl;rw[u8_beq,u8_beq,u8_beq,u8_beq];simp[Bool.or_assoc]);cases h1:((c.toNat:Int)==32)<;>cases h2:((c.toNat:Int)==9)<;>cases h3:((c.toNat:Int)==10)<;>cases h4:((c.toNat:Int)==13)
 all_goals
  rw[h1,h2,h3,h4]at HB;go_in;go_wp2
  go_ret;exact⟨ret_val (by rw[HB.out];rfl),rfl⟩
theorem isDigit_any (c:UInt8) (w:World):Calls Tryz.prog 84 #[.int .u8 c.toNat] w fun e w'=>e=.returned (.bool (isDig c))∧w=w':=by
 have HB:=zh (show isDig c=(decide ((48:Int)≤(c.toNat:Int))&&decide ((c.toNat:Int)≤57)) from by
  show decide (48≤c.toNat∧c.toNat≤57)=_;rw[Bool.eq_iff_iff];simp;omega)
 cases h1:decide ((48:Int)≤(c.toNat:Int))<;>cases h2:decide ((c.toNat:Int)≤57)
 all_goals
  rw[h1,h2]at HB;go_in;go_wp2
  go_ret;exact⟨ret_val (by rw[HB.out];rfl),rfl⟩
theorem isName_any (c:UInt8) (w:World):Calls Tryz.prog 86 #[.int .u8 c.toNat] w fun e w'=>e=.returned (.bool (isNm c))∧w=w':=by
 have HB:=zh (show isNm c=((decide ((97:Int)≤(c.toNat:Int))&&decide ((c.toNat:Int)≤122))||isDig c||(c.toNat:Int)==95) from by
  unfold isNm isLet;rw[u8_beq c 95];congr 2
  rw[Bool.eq_iff_iff];simp;omega)
 have HD:=zh (isDigit_any c);cases hd:isDig c<;>cases h1:decide ((97:Int)≤(c.toNat:Int))<;>cases h2:decide ((c.toNat:Int)≤122)<;>cases h3:((c.toNat:Int)==95)
 all_goals
  rw[hd]at HD;rw[h1,h2,h3,hd]at HB;go_in;go_wp2_with (go_at_call 84;refine(HD.out _).mono ?_;rintro e w' ⟨rfl,rfl⟩)
  go_ret;exact⟨ret_val (by rw[HB.out];rfl),rfl⟩
end
section
open Go.RowKit
theorem while_any (fn:Nat) (hen:∀ args w,(callFunc fn args).run Tryz.prog w=.ok (.enter fn args) w) (p:UInt8→Bool) (hp:∀ (c:UInt8) (w:World),Calls Tryz.prog fn #[.int .u8 c.toNat] w fun e w'=>e=.returned (.bool (p c))∧w=w')
  (s:ByteArray) (hs:s.size≤1000000) (a b:Nat) (ha:a≤s.size) (w:World) (hb:LexAt b s a w) :
  Calls Tryz.prog 82 #[.pointer (some ⟨b,0,none⟩),.func (.func fn) #[] #[]] w fun e w' =>
   e=.returned (.string (s.extract a (a+far p s.data.toList a)))∧LexAt b s (a+far p s.data.toList a) w'∧Fr [b] w w':=by
 have HP:=zh hp;clear hp;have hlen:s.data.toList.length=s.size:=by simp
 have HL:=zh hlen;clear hlen;have c0:=hb.c0;have c1:=hb.c1;go_in;go_wp2
 go_loopw [] (fun wr=>∃ k:Nat,a≤k∧k≤s.size∧LexAt b s k wr∧Fr [b] w wr∧Hid (a+far p s.data.toList a=k+far p s.data.toList k)) (fun wr=>match wr.cell? ⟨b,1,none⟩ with|some v=>s.size - (intOf v).toNat|none=>0)
 case atStart=>exact⟨a,Nat.le_refl _,ha,hb,Fr.refl _ _,rfl⟩
 case round =>
  obtain⟨k,hak,hk,hlx,hfr,hfar⟩:=hrel;have d0:=hlx.c0;have d1:=hlx.c1;have g1:=hlx.f1;by_cases hlt:k<s.size
  ·have hg0:s[k]'hlt=s.data.toList.getD k 0:=by simp[List.getD,hlt];rfl
   have hpk:p (s[k]'hlt)=p (s.data.toList.getD k 0):=by rw[hg0]
   have HPK:=zh hpk;clear hpk hg0;have HC:=HP.out (s[k]'hlt);cases hv:p (s[k]'hlt)
   ·rw[hv]at HC HPK;have HC:=zh HC;have HF:=zh (far_stop p (by rw[HL.out];exact hlt) HPK.out.symm);go_wp2_with fail
    go_quiet (refine Calls.quiet_of_same ((HC.out _).mono fun _ _ h=>⟨h.1,h.2.symm⟩))
    go_wp2
    go_quiet (fail)
    go_wp2
    go_ret;exact⟨ret_val (by rw[hfar.out,HF.out];rfl),by rw[hfar.out,HF.out];exact(hlx.drewN _).drewN _,(hfr.drewN _).drewN _⟩
   ·rw[hv]at HC HPK;have HC:=zh HC;have HF:=zh (far_go p (by rw[HL.out];exact hlt) HPK.out.symm);go_wp2_with fail
    go_quiet (refine Calls.quiet_of_same ((HC.out _).mono fun _ _ h=>⟨h.1,h.2.symm⟩))
    go_wp2
    go_roundw
    case rel=>exact⟨k+1,by omega,by omega,(hlx.drewN _).put _,(hfr.drewN _).setCell _ (by simp) _,by show _=_;rw[hfar.out,HF.out];omega⟩
    case measure =>
     have e1:∀ n,((wr.drewN n).setCell ⟨b,1,none⟩ (.int .i64 ((k:Int)+1))).cell? ⟨b,1,none⟩=some (.int .i64 ((k:Int)+1)):=fun n=>((hlx.drewN n).put (k+1)).c1
     simp only[e1,d1];show s.size - ((k:Int)+1).toNat<s.size - (k:Int).toNat;omega
  ·have ht:decide ((k:Int)<(s.size:Int))=false:=by simp;omega
   have HF:=zh (far_end p (l:=s.data.toList) (a:=k) (by rw[HL.out];omega));go_wp2_with fail
   go_quiet (fail)
   go_wp2
   go_quiet (fail)
   go_wp2
   go_ret;exact⟨ret_val (by rw[hfar.out,HF.out];rfl),by rw[hfar.out,HF.out];exact(hlx.drewN _).drewN _,(hfr.drewN _).drewN _⟩
end
section
open Go.RowKit Ieee
def textB (b:Nat):List UInt8 :=
 if Fl.isNaN b then [110,97,110] else(if Fl.ng b then [45] else []) ++
  (if Fl.rg b=9218868437227405312 then [105,110,102] else if Fl.rg b=0 then [48,112,48] else Lib.decDigits (txtN (Fl.rg b))++112::Lib.itoa (txtE (Fl.rg b)))
theorem sub_self_fin {b:Nat} (h:Fl.rg b<9218868437227405312):double.sub b b=some 0:=by
 unfold Format.sub;rw[Fl.read_fin h];simp only[Datum.opposite,Datum.sum];have e:signed (Fl.ng b) (Fl.mag (Fl.rg b)) (-1074+(Fl.plc (Fl.rg b):Int) - min (-1074+(Fl.plc (Fl.rg b):Int)) (-1074+(Fl.plc (Fl.rg b):Int))).toNat+signed (!Fl.ng b) (Fl.mag (Fl.rg b)) (-1074+(Fl.plc (Fl.rg b):Int) - min (-1074+(Fl.plc (Fl.rg b):Int)) (-1074+(Fl.plc (Fl.rg b):Int))).toNat=0:=by
  rw[Fl.signed_eq,Fl.signed_eq];cases Fl.ng b<;>simp<;>omega
 rw[e];simp only[if_true,Option.map_some,Format.write,Int.natAbs_zero];rw[Fl.nearest_zero,Fl.word_eq];cases Fl.ng b<;>rfl
theorem sub_self_inf {b:Nat} (h:Fl.rg b=9218868437227405312):double.sub b b=none:=by
 unfold Format.sub;rw[Fl.read_inf h];simp only[Datum.opposite,Datum.sum];cases Fl.ng b<;>rfl
theorem nanPick_order (w:World) (a b:Nat):FloatKind.f64.format.order (nanPick w a b) 0=none:=by
 refine Fl.order_nan_left _ ?_;unfold nanPick Question.cut Fl.isNaN Fl.rg;simp only[decide_eq_true_eq,Nat.reducePow,Nat.reduceSub];generalize w.tape w.drawn (.nanBits .f64 a b)=t;have h1:t / 2 % 4503599627370495<4503599627370495:=Nat.mod_lt _ (by omega);have h2:t % 2<2:=Nat.mod_lt _ (by omega);generalize t / 2 % 4503599627370495=y at *;generalize t % 2=x at *;omega
theorem conv_top {f:Nat} (hf:f<4503599627370496):floatToIntVal .f64 (1075*4503599627370496+f) .u64=some ((4503599627370496+f:Nat):Int):=by
 have e2:Fl.rg (1075*4503599627370496+f)=1075*4503599627370496+f:=Nat.mod_eq_of_lt (by omega);have e3:Fl.ng (1075*4503599627370496+f)=false:=by unfold Fl.ng;simp;omega
 have e4:Fl.mag (1075*4503599627370496+f)=4503599627370496+f:=by unfold Fl.mag;rw[if_neg (by omega)];omega
 have e5:Fl.plc (1075*4503599627370496+f)=1074:=by unfold Fl.plc;rw[if_neg (by omega)];omega
 have hd:FloatKind.f64.decode (1075*4503599627370496+f)=.number false (4503599627370496+f) 0:=by
  show double.read _=_;rw[Fl.read_fin (by rw[e2];omega),e2,e3,e4,e5];rfl
 unfold floatToIntVal;rw[hd];have hi:Datum.toInt .zero (.number false (4503599627370496+f) 0)=some ((4503599627370496+f:Nat):Int):=by
  simp only[Datum.toInt,Datum.integral];rw[show(-(0:Int)).toNat=0 from rfl,Fl.cut0];simp[signed]
 rw[hi];simp only;rw[if_pos];constructor
 ·simp[IntKind.min,IntKind.signed];omega
 ·simp[IntKind.max,IntKind.signed,IntKind.bits];omega
theorem frxE_bounds {r:Nat} (h0:r≠0) (h:r<9218868437227405312) : -1127≤frxE r - 53∧frxE r - 53≤971:=by
 obtain⟨n1,n2⟩:=nrm_bounds h0 h;unfold frxE nrmE;by_cases g:r<4503599627370496
 ·have hs:=nrm_sub h0 g;have hl:r.log2<52:=(Nat.log2_lt h0).2 (by simpa using g);rw[if_pos g];omega
 ·rw[if_neg g];omega
theorem text_nan (b:Nat) (hb:F64 b) (w:World) (hn:Fl.isNaN b=true) :
  Calls Tryz.prog 105 #[.float .f64 b] w fun e w'=>e=.returned (.string ⟨(textB b).toArray⟩)∧Below w.heap.size w w':=by
 have h1:=ord_ne b b;rw[feq_self,Bool.not_not]at h1;have HT:=zh (textB.eq_def b);rw[hn]at h1 HT;cases hg:Fl.ng b
 all_goals
  go_in;go_wp2_with (go_at_call 129;refine(signbit_any _ hb _).mono ?_;rintro e w' ⟨rfl,rfl⟩)
  go_ret;exact⟨ret_val (by rw[HT.out];rfl),Below.refl _ _⟩
theorem text_inf (b:Nat) (hb:F64 b) (w:World) (hi:Fl.rg b=9218868437227405312) :
  Calls Tryz.prog 105 #[.float .f64 b] w fun e w'=>e=.returned (.string ⟨(textB b).toArray⟩)∧Below w.heap.size w w':=by
 have hn:Fl.isNaN b=false:=by unfold Fl.isNaN;rw[hi];rfl
 have h1:=ord_ne b b;rw[feq_self,Bool.not_not]at h1;have HT:=zh (textB.eq_def b);rw[hn]at h1 HT;rw[if_pos hi]at HT;have hs:=fun w=>run_float_none (P:=Tryz.prog) w .sub 22 b b (.inr (.inl rfl)) (sub_self_inf hi)
 have ho:=fun w=>nanPick_order w b b
 clear hi hn;cases hg:Fl.ng b
 all_goals
  rw[hg]at HT;go_in;go_wp2_with (go_at_call 129;refine(signbit_any _ hb _).mono ?_;rintro e w' ⟨rfl,rfl⟩)
  go_ret;exact⟨ret_val (by rw[HT.out];rfl),Below.drew (Below.refl _ _)⟩
theorem text_zero (b:Nat) (hb:F64 b) (w:World) (hi:Fl.rg b=0) :
  Calls Tryz.prog 105 #[.float .f64 b] w fun e w'=>e=.returned (.string ⟨(textB b).toArray⟩)∧Below w.heap.size w w':=by
 have hn:Fl.isNaN b=false:=by unfold Fl.isNaN;rw[hi];rfl
 have h1:=ord_ne b b;rw[feq_self,Bool.not_not]at h1;have HT:=zh (textB.eq_def b);rw[hn]at h1 HT;rw[hi]at HT;have hs:=fun w=>run_float_arith (P:=Tryz.prog) w .sub 22 .f64 b b 0 (sub_self_fin (by omega))
 have ho:FloatKind.f64.format.order 0 0=some .eq:=by kernel_rfl
 have hz:FloatKind.f64.format.order b 0=some .eq:=by
  show double.order b 0=_;rw[Fl.order_some hn (by decide),Fl.cmp_int];have:Fl.K b=0:=by unfold Fl.K;rw[hi];simp
  rw[this];rfl
 clear hi hn;cases hg:Fl.ng b
 all_goals
  rw[hg]at HT;go_in;go_wp2_with (go_at_call 129;refine(signbit_any _ hb _).mono ?_;rintro e w' ⟨rfl,rfl⟩)
  go_ret;exact⟨ret_val (by rw[HT.out];rfl),Below.refl _ _⟩
theorem dec_len (m:Nat) (h:m<18446744073709551616):(Lib.decDigits m).length≤20:=by
 rw[Lib.decDigits_length];by_cases h1:1≤m
 case neg=>rw[show m=0 by omega,Lib.nDigits_small (by omega)];omega
 have:=Lib.numDigits_eq m h1 h;split at this<;>omega
theorem itoa_len (n:Int) (h1 : -9223372036854775808≤n) (h2:n≤9223372036854775807):(Lib.itoa n).length≤21:=by
 unfold Lib.itoa;split
 ·have:=dec_len n.natAbs (by omega);simp;omega
 ·have:=dec_len n.toNat (by omega);omega
theorem text_join (p a c:List UInt8):Value.string (({ data:=p.toArray }++{ data:=a.toArray }++{ data:=#[112] }:ByteArray)++{ data:=c.toArray })=.string ⟨(p++(a++112::c)).toArray⟩:=by
 congr 1
 apply ByteArray.ext
 simp
theorem loop_bounds {f m k:Nat} (h:f<4503599627370496) (e:4503599627370496+f=m*2 ^ k):m<9007199254740992∧(1≤m→k≤52):=by
 have hp:=Nat.two_pow_pos k;constructor
 ·have:m≤m*2 ^ k:=Nat.le_mul_of_pos_right _ hp;omega
 ·intro hm;have h2:2 ^ k≤m*2 ^ k:=Nat.le_mul_of_pos_left _ hm;have h3:2 ^ k<2 ^ 53:=by omega
  have:=(Nat.pow_lt_pow_iff_right (by omega:1<2)).1 h3;omega
theorem loop_step {f m k:Nat} (h:m % 2=0) (e:Hid (4503599627370496+f=m*2 ^ k)):Hid (4503599627370496+f=(m / 2)*2 ^ (k+1)):=by
 show _=_;rw[e.out,Nat.pow_succ,Nat.mul_comm (2 ^ k) 2,←Nat.mul_assoc];congr 1;omega
theorem loop_end {f m k:Nat} (h:m % 2=1) (e:4503599627370496+f=m*2 ^ k) (hf:f<4503599627370496):odd (4503599627370496+f)=m∧tz (4503599627370496+f)=k:=odd_of h e (by omega)
theorem text_num (b:Nat) (hb:F64 b) (w:World) (hE:Env w) (h0:Fl.rg b≠0) (hi:Fl.rg b<9218868437227405312) :
  Calls Tryz.prog 105 #[.float .f64 b] w fun e w'=>e=.returned (.string ⟨(textB b).toArray⟩)∧Below w.heap.size w w':=by
 have hn:Fl.isNaN b=false:=by unfold Fl.isNaN;simp;omega
 have h1:=ord_ne b b;rw[feq_self,Bool.not_not]at h1;have HT:=zh (textB.eq_def b);rw[hn]at h1 HT;rw[if_neg (show Fl.rg b≠9218868437227405312 by omega),if_neg h0]at HT;have hs:=fun w=>run_float_arith (P:=Tryz.prog) w .sub 22 .f64 b b 0 (sub_self_fin (by omega))
 have ho:FloatKind.f64.format.order 0 0=some .eq:=by kernel_rfl
 have hz:∃ o,FloatKind.f64.format.order b 0=some o∧(some o==some .eq)=false:=by
  have:FloatKind.f64.format.order b 0=some (compare (Fl.K b) 0):=by
   show double.order b 0=_;rw[Fl.order_some hn (by decide)];rfl
  rw[this,Fl.cmp_int];have:Fl.K b≠0:=by unfold Fl.K;split<;>omega
  by_cases g:Fl.K b<0
  ·rw[if_pos g];exact⟨_,rfl,rfl⟩
  ·rw[if_neg g,if_neg this];exact⟨_,rfl,rfl⟩
 obtain⟨o,hz,hz2⟩:=hz;have HA:=zh (abs_any b hb);have HG:=zh (signbit_any b hb);have HX:=zh (frexp_any (Fl.rg b) h0 hi);obtain⟨f1,f2⟩:=frx_bounds (Fl.rg b);have hL:=ldexp_any (frx (Fl.rg b)) (by omega) (by omega) 53 (by omega) (by omega);rw[show frx (Fl.rg b)=1022*4503599627370496+nrm (Fl.rg b) % 4503599627370496 from rfl,ldx_top (Nat.mod_lt _ (by omega))]at hL;have HL:=zh hL;have hcv:=fun w=>run_convert_float_int (P:=Tryz.prog) w 22 78 .f64 .u64 _ _ (by rw[Tryz.underlying22];rfl) Tryz.underlying78 (conv_top (f:=nrm (Fl.rg b) % 4503599627370496) (Nat.mod_lt _ (by omega)))
 rw[show frx (Fl.rg b)=1022*4503599627370496+nrm (Fl.rg b) % 4503599627370496 from rfl]at HX;obtain⟨e1,e2⟩:=frxE_bounds h0 hi;have HN:=zh (txt_n53 h0 hi);have HNv:=zh (show n53 (Fl.rg b)=4503599627370496+nrm (Fl.rg b) % 4503599627370496 from rfl);have hfm:nrm (Fl.rg b) % 4503599627370496<4503599627370496:=Nat.mod_lt _ (by omega);clear f1 f2 hL hi hn h0;generalize txtN (Fl.rg b)=tn at *;generalize txtE (Fl.rg b)=te at *;generalize n53 (Fl.rg b)=n at *;generalize frxE (Fl.rg b)=fe at *;generalize nrm (Fl.rg b) % 4503599627370496=f at *;generalize 1022*4503599627370496+f=x1 at *;generalize 1075*4503599627370496+f=x2 at *;cases hg:Fl.ng b
 all_goals
  rw[hg]at HT;go_in;go_wp2_with (first
   | (go_at_call 129;refine(HG.out _).mono ?_;rintro e w' ⟨rfl,rfl⟩)
   | (go_at_call 131;refine(HA.out _).mono ?_;rintro e w' ⟨rfl,rfl⟩)
   | (go_at_call 130;refine(HX.out _).mono ?_;rintro e w' ⟨rfl,rfl⟩)
   | (go_at_call 132;refine(HL.out _).mono ?_;rintro e w' ⟨rfl,rfl⟩))
  go_loop [5,6] (fun e n=>∃ k m:Nat,1≤m∧Hid (4503599627370496+f=m*2 ^ k)∧e=.int .i64 (fe - 53+k)∧n=.int .u64 m) (fun _ n=>(intOf n).toNat)
  case atStart=>exact⟨0,4503599627370496+f,by omega,by show _=_;simp,by congr 1;omega,by congr 1⟩
  case round =>
   obtain⟨k,m,hm1,hkm,rfl,rfl⟩:=hrel;obtain⟨hb1,hb2⟩:=loop_bounds (by omega) hkm.out;by_cases hp:m % 2=0
   ·have ht:((m:Int) % 2==0)=true:=by simp;omega
    have HP:=zh hp;clear hp;go_wp2
    go_round
    case rel=>exact⟨k+1,m / 2,by have:=HP.out;omega,loop_step HP.out hkm,by go_num,by congr 1⟩
    case measure=>simp[intOf];omega
   ·have ht:((m:Int) % 2==0)=false:=by simp;omega
    have HP:=zh hp;clear hp;have hfin:=loop_end (show m % 2=1 by have:=HP.out;omega) hkm.out (by omega);rw[←HNv.out]at hfin;have hN:=HN.out;rw[hfin.1,hfin.2]at hN;obtain⟨hN1,hN2⟩:=hN;have HN1:=zh hN1;clear hN1;have HN2:=zh hN2;clear hN2 hfin;go_wp2_with fail
    refine(formatUint_any m (by omega) _ hE).mono ?_;rintro e w1 ⟨rfl,hb1'⟩;have hlen:=dec_len m (by omega);have hlen2:=itoa_len (fe - 53+k) (by omega) (by omega);go_wp2_with fail
    refine(itoa_any (fe - 53+k) (by omega) (by omega) _ (hE.below hb1')).mono ?_;rintro e w2 ⟨rfl,hb2'⟩;go_wp2_with fail
    go_ret;exact⟨ret_val (by rw[HT.out,←HN1.out,←HN2.out];exact text_join _ _ _),below_tr hb1' hb2'⟩
theorem text_any (b:Nat) (hb:F64 b) (w:World) (hE:Env w) :
  Calls Tryz.prog 105 #[.float .f64 b] w fun e w'=>e=.returned (.string ⟨(textB b).toArray⟩)∧Below w.heap.size w w':=by
 by_cases hn:Fl.isNaN b=true
 ·exact text_nan b hb w hn
 ·have:=nan_lt (by simpa using hn);by_cases h0:Fl.rg b=0
  ·exact text_zero b hb w h0
  ·by_cases hi:Fl.rg b=9218868437227405312
   ·exact text_inf b hb w hi
   ·exact text_num b hb w hE h0 (by omega)
end
section
open Go.RowKit Ieee
theorem all_take_succ (l:List UInt8) (k:Nat) (h:k<l.length):(l.take (k+1)).all isDig=((l.take k).all isDig&&isDig l[k]):=by
 rw[List.take_succ_eq_append_getElem h,List.all_append];simp
theorem dig_false {l:List UInt8} {k:Nat} {d:Bool} (h1:(l.take k).all isDig=true) (h2:(l.take (k+1)).all isDig=((l.take k).all isDig&&d)) (h3:d=false):l.all isDig=false:=by
 rw[h1,h3]at h2;cases h:l.all isDig
 ·rfl
 ·have:(l.take (k+1)).all isDig=true:=by
   rw[List.all_eq_true]at h ⊢
   intro x hx;exact h x (List.mem_of_mem_take hx)
  rw[this]at h2;cases h2
theorem digits_any (s:ByteArray) (most:Nat) (hs:s.size≤1000000) (w:World):Calls Tryz.prog 143 #[.string s,.int .i64 most] w fun e w'=>e=.returned (.bool (digsOK s.data.toList most))∧Below w.heap.size w w':=by
 have hcv:=Lib.run_convert_string_bytes (P:=Tryz.prog) w 9 50 5 s Tryz.underlying9 Tryz.underlying50 Tryz.underlying5;have hcell:=Lib.bytesWorld_cell w 5 s;have HC:=zh hcell;clear hcell;have HB:=zh (Joins.below_bytesWorld w.heap.size w 5 s (Nat.le_refl _));have HD:=zh (digsOK.eq_def s.data.toList most);have hlen:s.data.toList.length=s.size:=by simp
 have HL:=zh hlen;clear hlen;generalize Lib.bytesWorld w 5 s=wb at *;go_in;go_wp2
 go_loop [10] (fun i=>∃ k:Nat,k≤s.size∧i=.int .i64 k∧Hid ((s.data.toList.take k).all isDig=true)) (fun i=>s.size - (intOf i).toNat)
 case atStart=>exact⟨0,Nat.zero_le _,rfl,by show _=_;simp⟩
 case round =>
  obtain⟨k,hk,rfl,hall⟩:=hrel;by_cases hlt:k<s.size
  ·have hc:=HC.out k hlt;have hdg:isDig (s.data.toList.getD k 0)=decide (48≤(s.data.toList.getD k 0).toNat∧(s.data.toList.getD k 0).toNat≤57):=rfl;have hbyte:(s.data.toList.getD k 0).toNat<256:=(s.data.toList.getD k 0).toNat_lt;have hsucc:=all_take_succ s.data.toList k (by rw[HL.out];exact hlt);have hg:s.data.toList.getD k 0=s.data.toList[k]'(by rw[HL.out];exact hlt):=by simp[List.getD,hlt]
   rw[←hg]at hsucc;have HS:=zh hsucc;clear hsucc hg;have HDG:=zh hdg;clear hdg;generalize s.data.toList.getD k 0=c at *;generalize hn:c.toNat=n at *;clear hn;by_cases hd:48≤n∧n≤57
   ·obtain⟨d1,d2⟩:=hd;have ht1:decide ((n:Int)<48)=false:=by simp;omega
    have ht2:decide ((57:Int)<(n:Int))=false:=by simp;omega
    have HQ:=zh (show isDig c=true from by rw[HDG.out];simp[d1,d2]);clear d1 d2;go_wp2
    go_round
    case rel=>exact⟨k+1,by omega,by go_num,by show _=_;rw[HS.out,hall.out,HQ.out];rfl⟩
    case measure=>simp[intOf];omega
   ·have HQ:=zh (show isDig c=false from by rw[HDG.out];simp[hd]);have HF:=zh (dig_false hall.out HS.out HQ.out);by_cases h48:n<48
    ·have ht1:decide ((n:Int)<48)=true:=by simp;omega
     clear hd h48;go_wp2
     go_ret;exact⟨ret_val (by rw[HD.out,HF.out];rfl),HB.out⟩
    ·have ht1:decide ((n:Int)<48)=false:=by simp;omega
     have ht2:decide ((57:Int)<(n:Int))=true:=by simp;omega
     clear hd h48;go_wp2
     go_ret;exact⟨ret_val (by rw[HD.out,HF.out];rfl),HB.out⟩
  ·have hall2:=hall.out;rw[List.take_of_length_le (by rw[HL.out];omega)]at hall2;have HA:=zh hall2;clear hall2 hall;have HR:Hid (digsOK s.data.toList most=(decide (1≤s.size)&&decide (s.size≤most))):=by
    show _=_;rw[HD.out,HA.out,HL.out];rfl
   by_cases g1:1≤s.size
   ·by_cases g2:s.size≤most
    ·have HV:=zh (HR.out.trans (show _=true by simp[g1,g2]));clear hk;go_wp2
     go_ret;exact⟨ret_val (by rw[HV.out];rfl),HB.out⟩
    ·have HV:=zh (HR.out.trans (show _=false by simp[g2]));clear hk;go_wp2
     go_ret;exact⟨ret_val (by rw[HV.out];rfl),HB.out⟩
   ·have HV:=zh (HR.out.trans (show _=false by simp[g1]));clear hk;go_wp2
    go_ret;exact⟨ret_val (by rw[HV.out];rfl),HB.out⟩
def oneB (neg:Bool):Nat:=if neg then 13830554455654793216 else 4607182418800017408
theorem mul_oneB (neg:Bool) {r:Nat} (h:r<9218868437227405312):double.mul (oneB neg) r=some (double.word neg r):=by
 unfold Format.mul;have e1:double.read (oneB neg)=.number neg 4503599627370496 (-52):=by cases neg<;>decide
 have e0:Fl.rg r=r:=Nat.mod_eq_of_lt (by omega);have e2:Fl.ng r=false:=by unfold Fl.ng;simp;omega
 rw[e1,Fl.read_fin (by rw[e0];exact h),e0,e2];simp only[Datum.product,Bool.xor_false,Option.map_some,Format.write];congr 1
 rw[Nat.mul_comm,show(4503599627370496:Nat)=2 ^ 52 from rfl,nearest_shift];by_cases h0:r=0
 ·rw[h0,show Fl.mag 0=0 from by decide,Fl.nearest_zero]
 ·have hp:=Fl.plc_le h;have hl:=Fl.log2_lt53 (mag_ne h0) (Fl.mag_lt _);rw[show(-52:Int)+(-1074+(Fl.plc r:Int))+(52:Nat) = -1074+(Fl.plc r:Int) from by omega,
   Fl.nearest_fin _ (mag_ne h0) (Fl.mag_lt _) (by omega) (by omega),Fl.rungOf_self h h0]
theorem ldx_le (r:Nat) (e:Int):ldxB r e≤9218868437227405312:=by
 have hm:r % 4503599627370496<4503599627370496:=Nat.mod_lt _ (by omega);unfold ldxB;split
 ·omega
 ·split
  ·omega
  ·split
   ·unfold Format.nearest;rw[if_neg (by omega),word_false,Fl.iR];exact Nat.min_le_right _ _
   ·omega
theorem rungOf_one {m:Nat} (h1:1≤m) (h:m<9007199254740992):4503599627370496≤Fl.rungOf m 0∧Fl.rungOf m 0<9218868437227405312:=by
 obtain⟨e,a,b⟩:=rungOf_norm (n:=m) (k:=0) (by omega) h (by omega);have hl:=Fl.log2_lt53 (show m≠0 by omega) h;rw[e];omega
theorem floatOfInt_small {m:Nat} (h1:1≤m) (h:m<9007199254740992):floatOfInt .f64 (m:Int)=Fl.rungOf m 0:=by
 have hl:=Fl.log2_lt53 (show m≠0 by omega) h;show double.write (.number (decide ((m:Int)<0)) (m:Int).natAbs 0)=_;rw[show decide ((m:Int)<0)=false from by simp,Int.natAbs_natCast];show double.nearest false m 0=_;rw[Fl.nearest_fin _ (by omega) h (by omega) (by omega),word_false]
theorem rungOf_pos {m:Nat} {e:Int} (h0:m≠0) (h:m<9007199254740992) (hr:rep m e):Fl.rungOf m e≠0∧Fl.rungOf m e<9218868437227405312:=by
 refine⟨?_,Fl.rungOf_fin h0 h hr.1 hr.2⟩;obtain⟨a,_⟩:=Fl.rungOf_spec h0 h hr.1;intro hz;rw[hz,show Fl.mag 0=0 from by decide]at a;have:=Nat.mul_pos (show 0<m by omega) (Nat.two_pow_pos (e - Fl.lastOf m e).toNat);omega
theorem txt_rung {m:Nat} {e:Int} (ho:m % 2=1) (h:m<9007199254740992) (hr:rep m e):textB (Fl.rungOf m e)=Lib.decDigits m++112::Lib.itoa e:=by
 obtain⟨g0,g1⟩:=rungOf_pos (show m≠0 by omega) h hr;obtain⟨p1,p2,p3,p4,_⟩:=pos_facts g0 g1;obtain⟨a,b⟩:=Fl.rungOf_spec (show m≠0 by omega) h hr.1;have hml:=Fl.mag_lt (Fl.rungOf m e);obtain⟨c,d⟩:=odd_of ho a (by omega);have e1:txtN (Fl.rungOf m e)=m:=c;have e2:txtE (Fl.rungOf m e)=e:=by
  unfold txtE;rw[d,b];have:Fl.lastOf m e≤e:=by have:=Fl.log2_lt53 (show m≠0 by omega) h;have:=hr.1;unfold Fl.lastOf;omega
  omega
 unfold textB;rw[p4,p3,p2,if_neg (show Fl.rungOf m e≠9218868437227405312 by omega),if_neg g0,e1,e2];rfl
theorem cmp_join (a c l:List UInt8):(l==({ data:=a.toArray }++{ data:=#[112] }++{ data:=c.toArray }:ByteArray).toList)=(l==a++112::c):=by
 congr 1
 rw[ByteArray.toList_eq];simp
theorem exact_bounds {n m j:Nat} (hn:n≤9007199254740992) (hm:1≤m) (e:n=m*2 ^ j):m≤9007199254740992∧j≤53:=by
 have hp:=Nat.two_pow_pos j;constructor
 ·have:m≤m*2 ^ j:=Nat.le_mul_of_pos_right _ hp;omega
 ·have h2:2 ^ j≤m*2 ^ j:=Nat.le_mul_of_pos_left _ hm;have h3:2 ^ j≤2 ^ 53:=by omega
  exact(Nat.pow_le_pow_iff_right (by omega:1<2)).1 h3
theorem half_step {n m k:Nat} (h:m % 2=0) (e:Hid (n=m*2 ^ k)):Hid (n=(m / 2)*2 ^ (k+1)):=by
 show _=_;rw[e.out,Nat.pow_succ,Nat.mul_comm (2 ^ k) 2,←Nat.mul_assoc];congr 1;omega
theorem exact_any (neg:Bool) (n:Nat) (hn:n≤9007199254740992) (k:Int) (h1 : -10000≤k) (h2:k≤10000) (w:World) (hE:Env w) :
  Calls Tryz.prog 146 #[.float .f64 (oneB neg),.int .u64 n,.int .i64 k] w fun e w'=>e=.returned (.tuple #[.float .f64 (exB neg n k),.int .i64 (exE n k)])∧Below w.heap.size w w':=by
 by_cases h0:n=0
 ·subst h0;have hm:=fun w=>run_float_arith (P:=Tryz.prog) w .mul 22 .f64 (oneB neg) 0 _ (mul_oneB neg (r:=0) (by omega))
  go_in;go_wp2
  go_ret2;exact⟨rfl,Below.refl _ _⟩
 ·have hz:((n:Int)==0)=false:=by simp;omega
  have HX:=zh (exB.eq_def neg n k);have HY:=zh (exE.eq_def n k);rw[if_neg h0]at HX HY;go_in;go_wp2
  go_loop [1,2] (fun nv kv=>∃ j m:Nat,1≤m∧Hid (n=m*2 ^ j)∧kv=.int .i64 (k+j)∧nv=.int .u64 m) (fun nv _=>(intOf nv).toNat)
  case atStart=>exact⟨0,n,by omega,by show _=_;simp,by congr 1;omega,rfl⟩
  case round =>
   obtain⟨j,m,hm1,hjm,rfl,rfl⟩:=hrel;obtain⟨hb1,hb2⟩:=exact_bounds hn hm1 hjm.out;by_cases hp:m % 2=0
   ·have ht:((m:Int) % 2==0)=true:=by simp;omega
    have HP:=zh hp;clear hp;go_wp2
    go_round
    case rel=>exact⟨j+1,m / 2,by have:=HP.out;omega,half_step HP.out hjm,by go_num,by congr 1⟩
    case measure=>simp[intOf];omega
   ·have ht:((m:Int) % 2==0)=false:=by simp;omega
    have hodd:m % 2=1:=by omega
    have HP:=zh hodd;clear hp hodd;obtain⟨eo,et⟩:=odd_of HP.out hjm.out (by omega);rw[eo,et]at HX HY;clear eo et;have hr:=rungOf_one hm1 (show m<9007199254740992 by have:=HP.out;omega);have HR:=zh hr;clear hr;go_wp2_with (fail)
    rw[floatOfInt_small hm1 (show m<9007199254740992 by have:=HP.out;omega)];refine(ldexp_any _ HR.out.1 HR.out.2 (k+j) (by omega) (by omega) _).mono ?_;rintro e w' ⟨rfl,rfl⟩;by_cases hrep:rep m (k+j)
    ·rw[if_pos hrep]at HX HY;rw[ldx_exact (by omega) (show m<9007199254740992 by have:=HP.out;omega) hrep];have HT:=zh (txt_rung HP.out (show m<9007199254740992 by have:=HP.out;omega) hrep);obtain⟨g0,g1⟩:=rungOf_pos (show m≠0 by omega) (show m<9007199254740992 by have:=HP.out;omega) hrep;clear hrep;generalize Fl.rungOf m (k+j)=g at *;obtain⟨p1,p2,p3,p4,p5⟩:=pos_facts g0 g1;have hs:=fun w=>run_float_arith (P:=Tryz.prog) w .sub 22 .f64 g g 0 (sub_self_fin (by rw[p2];exact g1))
     have ho:FloatKind.f64.format.order 0 0=some .eq:=by kernel_rfl
     have hmul:=fun w=>run_float_arith (P:=Tryz.prog) w .mul 22 .f64 (oneB neg) g _ (mul_oneB neg g1)
     have HTX:=zh (text_any g p1);rw[HT.out]at HTX;clear p1 p2 p3 p4 g0 g1;have hl1:=dec_len m (by omega);have hl2:=itoa_len (k+j) (by omega) (by omega);go_wp2_with fail
     refine(HTX.out _ hE).mono ?_;rintro e w1 ⟨rfl,hw1⟩;go_wp2_with fail
     refine(formatUint_any m (by omega) _ (hE.below hw1)).mono ?_;rintro e w2 ⟨rfl,hw2⟩;go_wp2_with fail
     refine(itoa_any (k+j) (by omega) (by omega) _ (hE.below (below_tr hw1 hw2))).mono ?_;rintro e w3 ⟨rfl,hw3⟩;have hq:=cmp_join (Lib.decDigits m) (Lib.itoa (k+j)) (Lib.decDigits m++112::Lib.itoa (k+j));rw[show(Lib.decDigits m++112::Lib.itoa (k+j)==Lib.decDigits m++112::Lib.itoa (k+j))=true from by simp]at hq;go_wp2_with fail
     go_ret2;exact⟨ret_val (by rw[HX.out,HY.out];rfl),below_tr (below_tr hw1 hw2) hw3⟩
    ·rw[if_neg hrep]at HX HY;have hle:=ldx_le (Fl.rungOf m 0) (k+j);have ho:FloatKind.f64.format.order 0 0=some .eq:=by kernel_rfl
     generalize ldxB (Fl.rungOf m 0) (k+j)=g at *;by_cases g0:g=0
     ·subst g0;have hs:=fun w=>run_float_arith (P:=Tryz.prog) w .sub 22 .f64 0 0 0 (sub_self_fin (by decide))
      clear hle hrep;go_wp2
      go_ret2;exact⟨ret_val (by rw[HX.out,HY.out];rfl),Below.refl _ _⟩
     ·by_cases gi:g=9218868437227405312
      ·subst gi;have hs:=fun w=>run_float_none (P:=Tryz.prog) w .sub 22 9218868437227405312 9218868437227405312 (.inr (.inl rfl)) (sub_self_inf (by decide))
       have hno:=fun w=>nanPick_order w 9218868437227405312 9218868437227405312
       clear hle hrep g0;go_wp2
       go_ret2;exact⟨ret_val (by rw[HX.out,HY.out];rfl),Below.drew (Below.refl _ _)⟩
      ·obtain⟨p1,p2,p3,p4,p5⟩:=pos_facts g0 (show g<9218868437227405312 by omega);have hs:=fun w=>run_float_arith (P:=Tryz.prog) w .sub 22 .f64 g g 0 (sub_self_fin (by rw[p2];omega))
       have HTX:=zh (text_any g p1);have htx:textB g=Lib.decDigits (txtN g)++112::Lib.itoa (txtE g):=by
        unfold textB;rw[p4,p3,p2,if_neg gi,if_neg g0];rfl
       have hne:(textB g==Lib.decDigits m++112::Lib.itoa (k+j))=false:=by
        rw[beq_eq_false_iff_ne];intro he;rw[htx]at he;obtain⟨a1,a2⟩:=txt_inj he;have:=(txt_bounds g0 (by omega)).2.2.1;rw[a1,a2]at this;exact hrep this
       have hq:=cmp_join (Lib.decDigits m) (Lib.itoa (k+j)) (textB g);rw[hne]at hq;clear hne htx p1 p2 p3 p4 hle hrep g0 gi;have hl1:=dec_len m (by omega);have hl2:=itoa_len (k+j) (by omega) (by omega);go_wp2_with fail
       refine(HTX.out _ hE).mono ?_;rintro e w1 ⟨rfl,hw1⟩;go_wp2_with fail
       refine(formatUint_any m (by omega) _ (hE.below hw1)).mono ?_;rintro e w2 ⟨rfl,hw2⟩;go_wp2_with fail
       refine(itoa_any (k+j) (by omega) (by omega) _ (hE.below (below_tr hw1 hw2))).mono ?_;rintro e w3 ⟨rfl,hw3⟩;go_wp2_with fail
       go_ret2;exact⟨ret_val (by rw[HX.out,HY.out];rfl),below_tr (below_tr hw1 hw2) hw3⟩
end
section
open Go.RowKit Ieee
/-- strings.CutPrefix at a minus -/
theorem cutPrefix_any (l:List UInt8) (w:World):Calls Tryz.prog 138 #[.string ⟨l.toArray⟩,.string ⟨#[45]⟩] w fun e w'=>e=.returned (.tuple #[.string ⟨(unNeg l).toArray⟩,.bool (isNeg l)])∧w=w':=by
 have hc:=Tryz.strings_CutPrefix ⟨l.toArray⟩ ⟨#[45]⟩ w;rw[show(⟨#[45]⟩:ByteArray).data.toList=[45] from rfl,show(⟨l.toArray⟩:ByteArray).data.toList=l from rfl,hasPrefix_neg,trimPrefix_neg]at hc;exact hc.mono fun _ _ ⟨h1,h2⟩=>⟨h1,h2.symm⟩
theorem cutP_none (l:List UInt8) (hl:l.length≤1000000) (h:splitP l=none) (w:World) (hE:Env w):Calls Tryz.prog 142 #[.string ⟨l.toArray⟩,.string ⟨#[112]⟩] w fun e w' =>
  e=.returned (.tuple #[.string ⟨l.toArray⟩,.string ⟨#[]⟩,.bool false])∧Below w.heap.size w w':=by
 obtain⟨m,hm⟩:=hE.most;have hc:=Tryz.strings_Cut ⟨l.toArray⟩ ⟨#[112]⟩ m w (by show l.toArray.size<_;simp;omega) hm;rw[show(⟨#[112]⟩:ByteArray).data.toList=[112] from rfl,show(⟨l.toArray⟩:ByteArray).data.toList=l from rfl,cut_p,h]at hc;exact hc.mono fun _ _ ⟨h1,n,h2⟩=>⟨h1,by rw[h2];exact below_drewN _ _⟩
theorem cutP_some (l a b:List UInt8) (hl:l.length≤1000000) (h:splitP l=some (a,b)) (w:World) (hE:Env w):Calls Tryz.prog 142 #[.string ⟨l.toArray⟩,.string ⟨#[112]⟩] w fun e w' =>
  e=.returned (.tuple #[.string ⟨a.toArray⟩,.string ⟨b.toArray⟩,.bool true])∧Below w.heap.size w w':=by
 obtain⟨m,hm⟩:=hE.most;have hc:=Tryz.strings_Cut ⟨l.toArray⟩ ⟨#[112]⟩ m w (by show l.toArray.size<_;simp;omega) hm;rw[show(⟨#[112]⟩:ByteArray).data.toList=[112] from rfl,show(⟨l.toArray⟩:ByteArray).data.toList=l from rfl,cut_p,h]at hc;exact hc.mono fun _ _ ⟨h1,n,h2⟩=>⟨h1,by rw[h2];exact below_drewN _ _⟩
theorem digits_list (l:List UInt8) (most:Nat) (hl:l.length≤1000000) (w:World):Calls Tryz.prog 143 #[.string ⟨l.toArray⟩,.int .i64 most] w fun e w'=>e=.returned (.bool (digsOK l most))∧Below w.heap.size w w' :=
 digits_any ⟨l.toArray⟩ most (by show l.toArray.size≤_;simp;omega) w
theorem parseUint_ok (l:List UInt8) (hl:l.length≤1000000) (u:Nat) (h:Lib.parseUintB 64 l=.ok u) (w:World):Calls Tryz.prog 144 #[.string ⟨l.toArray⟩,.int .i64 10,.int .i64 64] w fun e w' =>
  e=.returned (.tuple #[.int .u64 u,.nilIface])∧Below w.heap.size w w' :=
 (Tryz.strconv_ParseUint_10_at64_ok ⟨l.toArray⟩ (by show l.toArray.size≤_;simp;omega) u h w).mono fun _ _ ⟨h1,h2⟩=>⟨h1,by
  rcases h2 with h2|h2<;>rw[h2]
  ·exact Below.refl _ _
  ·exact Joins.below_bytesWorld _ _ _ _ (Nat.le_refl _)⟩
theorem parseUint_range (l:List UInt8) (hl:l.length≤1000000) (h:Lib.parseUintB 64 l=.range) (w:World) (hE:Env w):Calls Tryz.prog 144 #[.string ⟨l.toArray⟩,.int .i64 10,.int .i64 64] w fun e w' =>
  ∃ N,e=.returned (.tuple #[.int .u64 18446744073709551615,.iface 178 (.pointer (some ⟨N,0,none⟩))])∧Below w.heap.size w w':=by
 obtain⟨ev,he,hev⟩:=hE.rng;exact(Tryz.strconv_ParseUint_10_at64_range ⟨l.toArray⟩ (by show l.toArray.size≤_;simp;omega) h ev w he hev).mono fun _ _ ⟨N,h1,_,_,h2⟩=>⟨N,h1,h2⟩
theorem atoi_ok (l:List UInt8) (hl:l.length≤1000000) (v:Int) (h:Lib.atoiAll l=.ok v) (w:World):Calls Tryz.prog 145 #[.string ⟨l.toArray⟩] w fun e w' =>
  e=.returned (.tuple #[.int .i64 v,.nilIface])∧Below w.heap.size w w' :=
 (Tryz.strconv_Atoi_ok ⟨l.toArray⟩ (by show l.toArray.size≤_;simp;omega) v h w).mono fun _ _ ⟨h1,h2⟩=>⟨h1,by
  rcases h2 with h2|⟨t,h2⟩<;>rw[h2]
  ·exact Below.refl _ _
  ·exact Joins.below_bytesWorld _ _ _ _ (Nat.le_refl _)⟩
theorem splitP_len {l a b:List UInt8} (h:splitP l=some (a,b)):a.length≤l.length∧b.length≤l.length:=by
 rcases index_p l with ⟨h1,_⟩|⟨a',b',h1,h2,_⟩
 ·rw[h1]at h;cases h
 ·rw[h1]at h;cases h
  rw[h2];simp;omega
theorem unNeg_len (l:List UInt8):(unNeg l).length≤l.length:=by
 unfold unNeg;split
 ·rw[List.length_tail];omega
 ·exact Nat.le_refl _
theorem parse_nan (l:List UInt8) (w:World) (h1:l=[110,97,110]) :
  Calls Tryz.prog 112 #[.string ⟨l.toArray⟩] w fun e w'=>e=.returned (.tuple #[.float .f64 (parseB l).1,.int .i64 (parseB l).2])∧Below w.heap.size w w':=by
 subst h1;have HP:=zh (show parseB [110,97,110]=(9221120237041090560,0) from rfl);have HC:=zh (cutPrefix_any [110,97,110]);go_in;go_wp2_with (first
  | (go_at_call 138;refine(HC.out _).mono ?_;rintro e w' ⟨rfl,rfl⟩)
  | (go_at_call 140;refine(mnan_any _).mono ?_;rintro e w' ⟨rfl,rfl⟩)
  | (go_at_call 139;refine(canon_any _ _).mono ?_;rintro e w' ⟨rfl,rfl⟩))
 go_ret2;exact⟨ret_val (by rw[HP.out];rfl),Below.refl _ _⟩
theorem parse_inf (l:List UInt8) (w:World) (h1:¬ l=[110,97,110]) (h2:unNeg l=[105,110,102]) :
  Calls Tryz.prog 112 #[.string ⟨l.toArray⟩] w fun e w'=>e=.returned (.tuple #[.float .f64 (parseB l).1,.int .i64 (parseB l).2])∧Below w.heap.size w w':=by
 have HP:=zh (parseB.eq_def l);rw[if_neg h1,if_pos h2]at HP;have hc:=cutPrefix_any l;rw[h2]at hc;have HC:=zh hc;clear hc h2;have hq:(l==[110,97,110])=false:=by simp[h1]
 have HI:=zh inf_pos;have HJ:=zh inf_neg;have hv1:=fun w=>run_convert_float_int (P:=Tryz.prog) w 22 3 .f64 .i64 4607182418800017408 1 (by rw[Tryz.underlying22];rfl) Tryz.underlying3 (by decide)
 have hv2:=fun w=>run_convert_float_int (P:=Tryz.prog) w 22 3 .f64 .i64 13830554455654793216 (-1) (by rw[Tryz.underlying22];rfl) Tryz.underlying3 (by decide)
 cases hn:isNeg l
 ·rw[hn]at HC HP;go_in;go_wp2_with (first
   | (go_at_call 138;refine(HC.out _).mono ?_;rintro e w' ⟨rfl,rfl⟩)
   | (go_at_call 141;refine(HI.out _).mono ?_;rintro e w' ⟨rfl,rfl⟩))
  go_ret2;exact⟨ret_val (by rw[HP.out];rfl),Below.refl _ _⟩
 ·rw[hn]at HC HP;go_in;go_wp2_with (first
   | (go_at_call 138;refine(HC.out _).mono ?_;rintro e w' ⟨rfl,rfl⟩)
   | (go_at_call 141;refine(HJ.out _).mono ?_;rintro e w' ⟨rfl,rfl⟩))
  go_ret2;exact⟨ret_val (by rw[HP.out];rfl),Below.refl _ _⟩
theorem parse_none (l:List UInt8) (hl:l.length≤1000000) (w:World) (hE:Env w) (h1:¬ l=[110,97,110]) (h2:¬ unNeg l=[105,110,102]) (h3:splitP (unNeg l)=none) :
  Calls Tryz.prog 112 #[.string ⟨l.toArray⟩] w fun e w'=>e=.returned (.tuple #[.float .f64 (parseB l).1,.int .i64 (parseB l).2])∧Below w.heap.size w w':=by
 have HP:=zh (parseB.eq_def l);rw[if_neg h1,if_neg h2,h3]at HP;have HC:=zh (cutPrefix_any l);have HC2:=zh (cutPrefix_any []);have hul:=unNeg_len l;have HU:=zh (cutP_none (unNeg l) (by omega) h3);have hq:(l==[110,97,110])=false:=by simp[h1]
 have hq2:(unNeg l==[105,110,102])=false:=by simp[h2]
 clear h1 h2 h3 hul;generalize unNeg l=r at *;cases hn:isNeg l
 all_goals
  rw[hn]at HC;go_in;go_wp2_with fail
  refine(HC.out _).mono ?_;rintro e w' ⟨rfl,rfl⟩;go_wp2_with fail
  refine(HU.out _ hE).mono ?_;rintro e w1 ⟨rfl,hw1⟩;go_wp2_with fail
  refine(HC2.out _).mono ?_;rintro e w' ⟨rfl,rfl⟩;go_wp2_with fail
  go_ret2;exact⟨ret_val (by rw[HP.out];rfl),hw1⟩
theorem parse_form (l m p:List UInt8) (hl:l.length≤1000000) (w:World) (hE:Env w) (h1:¬ l=[110,97,110]) (h2:¬ unNeg l=[105,110,102]) (h3:splitP (unNeg l)=some (m,p)) (h4:(digsOK m 20&&digsOK (unNeg p) 4)=false) :
  Calls Tryz.prog 112 #[.string ⟨l.toArray⟩] w fun e w'=>e=.returned (.tuple #[.float .f64 (parseB l).1,.int .i64 (parseB l).2])∧Below w.heap.size w w':=by
 have HP:=zh (parseB.eq_def l);rw[if_neg h1,if_neg h2,h3]at HP;simp only[h4]at HP;have HC:=zh (cutPrefix_any l);have HC2:=zh (cutPrefix_any p);have hul:=unNeg_len l;obtain⟨b1,b2⟩:=splitP_len h3;have HU:=zh (cutP_some (unNeg l) m p (by omega) h3);have HD1:=zh (digits_list m 20 (by omega));have HD2:=zh (digits_list (unNeg p) 4 (by have:=unNeg_len p;omega));have hq:(l==[110,97,110])=false:=by simp[h1]
 have hq2:(unNeg l==[105,110,102])=false:=by simp[h2]
 clear h1 h2 h3 hul b1 b2 hl;generalize unNeg l=r at *;generalize unNeg p=pw at *;generalize isNeg p=np at *;cases hn:isNeg l<;>cases hd:digsOK m 20<;>cases hd2:digsOK pw 4
 case false.true.true=>rw[hd,hd2]at h4;cases h4
 case true.true.true=>rw[hd,hd2]at h4;cases h4
 all_goals
  clear h4;rw[hn]at HC;rw[hd]at HD1;rw[hd2]at HD2;go_in;go_wp2_with fail
  refine(HC.out _).mono ?_;rintro e w' ⟨rfl,rfl⟩;go_wp2_with fail
  refine(HU.out _ hE).mono ?_;rintro e w1 ⟨rfl,hw1⟩;go_wp2_with fail
  refine(HC2.out _).mono ?_;rintro e w' ⟨rfl,rfl⟩;go_wp2_with fail
  refine(HD1.out _).mono ?_;rintro e w2 ⟨rfl,hw2⟩;go_wp2_with fail
  first
   | (go_ret2;exact⟨ret_val (by rw[HP.out];rfl),below_tr hw1 hw2⟩)
   | (refine(HD2.out _).mono ?_;rintro e w3 ⟨rfl,hw3⟩;go_wp2_with fail;go_ret2;exact⟨ret_val (by rw[HP.out];rfl),below_tr (below_tr hw1 hw2) hw3⟩)
theorem parse_num (l m p:List UInt8) (hl:l.length≤1000000) (w:World) (hE:Env w) (h1:¬ l=[110,97,110]) (h2:¬ unNeg l=[105,110,102]) (h3:splitP (unNeg l)=some (m,p)) (hd1:digsOK m 20=true) (hd2:digsOK (unNeg p) 4=true) :
  Calls Tryz.prog 112 #[.string ⟨l.toArray⟩] w fun e w'=>e=.returned (.tuple #[.float .f64 (parseB l).1,.int .i64 (parseB l).2])∧Below w.heap.size w w':=by
 have HP:=zh (parseB.eq_def l);rw[if_neg h1,if_neg h2,h3]at HP;simp only[hd1,hd2,Bool.and_self,if_true]at HP;have HC:=zh (cutPrefix_any l);have HC2:=zh (cutPrefix_any p);have hul:=unNeg_len l;obtain⟨b1,b2⟩:=splitP_len h3;have b3:=unNeg_len p;have HU:=zh (cutP_some (unNeg l) m p (by omega) h3);have hdd1:=digits_list m 20 (by omega);rw[hd1]at hdd1;have HD1:=zh hdd1;have hdd2:=digits_list (unNeg p) 4 (by omega);rw[hd2]at hdd2;have HD2:=zh hdd2;obtain⟨ha,hv⟩:=atoi_digs _ hd2;have HA:=zh (atoi_ok (unNeg p) (by omega) _ ha);have hpu:=parseUint_digs m (by unfold digsOK at hd1;simp only[Bool.and_eq_true]at hd1;exact hd1.1) (by unfold digsOK at hd1;simp only[Bool.and_eq_true,decide_eq_true_eq]at hd1;exact hd1.2.1);have HO:=zh (fun u h=>parseUint_ok m (by omega) u h);have HR:=zh (fun h=>parseUint_range m (by omega) h);have HX:=zh (exact_any (isNeg l) (decVal m));have hq:(l==[110,97,110])=false:=by simp[h1]
 have hq2:(unNeg l==[105,110,102])=false:=by simp[h2]
 clear h1 h2 h3 hul b1 b2 b3 hl hd1 hd2 hdd1 hdd2 ha;have HPU:=zh hpu;clear hpu;generalize unNeg l=r at *;generalize unNeg p=pw at *;generalize decVal m=n at *;generalize decVal pw=v at *;by_cases hbig:n<18446744073709551616
 ·have hok:=HPU.out;rw[if_pos hbig]at hok;have HOK:=zh hok;clear hok;by_cases hmid:9007199254740992<n
  ·rw[if_pos hmid]at HP;clear hbig;cases hn:isNeg l
   all_goals
    rw[hn]at HC;go_in;go_wp2_with fail
    refine(HC.out _).mono ?_;rintro e w' ⟨rfl,rfl⟩;go_wp2_with fail
    refine(HU.out _ hE).mono ?_;rintro e w1 ⟨rfl,hw1⟩;go_wp2_with fail
    refine(HC2.out _).mono ?_;rintro e w' ⟨rfl,rfl⟩;go_wp2_with fail
    refine(HD1.out _).mono ?_;rintro e w2 ⟨rfl,hw2⟩;go_wp2_with fail
    refine(HD2.out _).mono ?_;rintro e w3 ⟨rfl,hw3⟩;go_wp2_with fail
    refine(HO.out _ HOK.out _).mono ?_;rintro e w4 ⟨rfl,hw4⟩;go_wp2_with fail
    go_ret2;exact⟨ret_val (by rw[HP.out];rfl),below_tr (below_tr (below_tr hw1 hw2) hw3) hw4⟩
  ·rw[if_neg hmid]at HP;have hn53:n≤9007199254740992:=by omega
   clear hbig hmid;cases hn:isNeg l<;>cases hnp:isNeg p
   all_goals
    rw[hn]at HC HX;rw[hnp]at HC2;rw[hn,hnp]at HP;go_in;go_wp2_with fail
    refine(HC.out _).mono ?_;rintro e w' ⟨rfl,rfl⟩;go_wp2_with fail
    refine(HU.out _ hE).mono ?_;rintro e w1 ⟨rfl,hw1⟩;go_wp2_with fail
    refine(HC2.out _).mono ?_;rintro e w' ⟨rfl,rfl⟩;go_wp2_with fail
    refine(HD1.out _).mono ?_;rintro e w2 ⟨rfl,hw2⟩;go_wp2_with fail
    refine(HD2.out _).mono ?_;rintro e w3 ⟨rfl,hw3⟩;go_wp2_with fail
    refine(HO.out _ HOK.out _).mono ?_;rintro e w4 ⟨rfl,hw4⟩;go_wp2_with fail
    refine(HA.out _).mono ?_;rintro e w5 ⟨rfl,hw5⟩;go_wp2_with fail
    refine(HX.out hn53 _ (by omega) (by omega) _ (hE.below (below_tr (below_tr (below_tr (below_tr hw1 hw2) hw3) hw4) hw5))).mono ?_;rintro e w6 ⟨rfl,hw6⟩;go_wp2_with fail
    go_ret2;exact⟨ret_val (by rw[HP.out];rfl),below_tr (below_tr (below_tr (below_tr (below_tr hw1 hw2) hw3) hw4) hw5) hw6⟩
 ·have hok:=HPU.out;rw[if_neg hbig]at hok;have HOK:=zh hok;clear hok;rw[if_pos (show 9007199254740992<n by omega)]at HP;clear hbig;cases hn:isNeg l
  all_goals
   rw[hn]at HC;go_in;go_wp2_with fail
   refine(HC.out _).mono ?_;rintro e w' ⟨rfl,rfl⟩;go_wp2_with fail
   refine(HU.out _ hE).mono ?_;rintro e w1 ⟨rfl,hw1⟩;go_wp2_with fail
   refine(HC2.out _).mono ?_;rintro e w' ⟨rfl,rfl⟩;go_wp2_with fail
   refine(HD1.out _).mono ?_;rintro e w2 ⟨rfl,hw2⟩;go_wp2_with fail
   refine(HD2.out _).mono ?_;rintro e w3 ⟨rfl,hw3⟩;go_wp2_with fail
   refine(HR.out HOK.out _ (hE.below (below_tr (below_tr hw1 hw2) hw3))).mono ?_;rintro e w4 ⟨N,rfl,hw4⟩;go_wp2_with fail
   go_ret2;exact⟨ret_val (by rw[HP.out];rfl),below_tr (below_tr (below_tr hw1 hw2) hw3) hw4⟩
theorem parse_any (l:List UInt8) (hl:l.length≤1000000) (w:World) (hE:Env w) :
  Calls Tryz.prog 112 #[.string ⟨l.toArray⟩] w fun e w'=>e=.returned (.tuple #[.float .f64 (parseB l).1,.int .i64 (parseB l).2])∧Below w.heap.size w w':=by
 by_cases h1:l=[110,97,110]
 ·exact parse_nan l w h1
 ·by_cases h2:unNeg l=[105,110,102]
  ·exact parse_inf l w h1 h2
  ·cases h3:splitP (unNeg l) with
   | none=>exact parse_none l hl w hE h1 h2 h3
   | some x =>
    obtain⟨m,p⟩:=x;by_cases h4:digsOK m 20=true∧digsOK (unNeg p) 4=true
    ·exact parse_num l m p hl w hE h1 h2 h3 h4.1 h4.2
    ·refine parse_form l m p hl w hE h1 h2 h3 ?_;cases ha:digsOK m 20
     ·rfl
     ·cases hb:digsOK (unNeg p) 4
      ·rfl
      ·exact absurd ⟨ha,hb⟩ h4
end
section
open Go.RowKit
theorem store_float (w:World) (a:Addr) (x:Nat) (m:Mode):(store a (.float .f64 x) m).run Tryz.prog w=stored Tryz.prog w a (.float .f64 x) m:=run_store Tryz.prog w a _ m rfl
/-- a token's cells -/
def tokCells (k:Tk):Array Value:=#[.int .i64 k.kind,.int .i64 k.pos,.int .i64 k.next,.int .i64 k.num,.float .f64 k.flt,.string ⟨k.str.toArray⟩]
def TokAt (t:Nat) (k:Tk) (w:World):Prop:=w.heap[t]?=some (.cells (tokCells k) 98 (0,0))
theorem TokAt.cell {t:Nat} {k:Tk} {w:World} (h:TokAt t k w) (i:Nat):w.cell? ⟨t,i,none⟩=(tokCells k)[i]?:=zc h i
theorem TokAt.free {t:Nat} {k:Tk} {w:World} (h:TokAt t k w) (i:Nat):w.frozen? ⟨t,i,none⟩=false:=Lib.frozen_of_heap h i
theorem TokAt.kept {t:Nat} {k:Tk} {l:List Nat} {w w':World} (h:TokAt t k w) (hf:Fr l w w') (ht:t ∉ l):TokAt t k w':=(hf.block t (lt_of_block h) ht).trans h
theorem TokAt.drewN {t:Nat} {k:Tk} {w:World} (h:TokAt t k w) (n:Nat):TokAt t k (w.drewN n):=h
theorem TokAt.set {t:Nat} {k k':Tk} {w:World} (h:TokAt t k w) (i:Nat) (x:Value) (e:(tokCells k).setIfInBounds i x=tokCells k'):TokAt t k' (w.setCell ⟨t,i,none⟩ x):=by
 show _=_;rw[heap_setN h i x,e]
theorem TokAt.other {t:Nat} {k:Tk} {w:World} (h:TokAt t k w) (p:Addr) (x:Value) (hne:t≠p.block):TokAt t k (w.setCell p x):=(Below.heap_setCell _ _ _ _ hne).trans h
theorem LexAt.other {b:Nat} {s:ByteArray} {a:Nat} {w:World} (h:LexAt b s a w) (p:Addr) (x:Value) (hne:b≠p.block):LexAt b s a (w.setCell p x):=(Below.heap_setCell _ _ _ _ hne).trans h
theorem enters_blank:∀ args w,(callFunc 83 args).run Tryz.prog w=.ok (.enter 83 args) w:=enters_of Tryz.func83 (by kernel_rfl) rfl
theorem enters_digit:∀ args w,(callFunc 84 args).run Tryz.prog w=.ok (.enter 84 args) w:=enters_of Tryz.func84 (by kernel_rfl) rfl
theorem enters_name:∀ args w,(callFunc 86 args).run Tryz.prog w=.ok (.enter 86 args) w:=enters_of Tryz.func86 (by kernel_rfl) rfl
theorem part_bytes (s:ByteArray) (a e:Nat):s.extract a e=⟨(part s.data.toList a e).toArray⟩:=by
 apply ByteArray.ext
 apply Array.toList_inj.1
 show _=part s.data.toList a e;simp only[ByteArray.data_extract,Array.toList_extract,List.extract_eq_take_drop];unfold part;rfl
theorem part_length {l:List UInt8} {a e:Nat} (h:e≤l.length):(part l a e).length=e - a:=by unfold part;rw[List.length_take,List.length_drop];omega
/-- the library's variables, as long as only blocks from B on turn -/
def EnvB (B:Nat) (w:World):Prop:=B≤w.heap.size∧∀ w',Below B w w'→Env w'
theorem EnvB.here {B:Nat} {w:World} (h:EnvB B w):Env w:=h.2 w (Below.refl _ _)
theorem EnvB.below {B:Nat} {w w':World} (h:EnvB B w) (hb:Below B w w'):EnvB B w':=⟨Nat.le_trans h.1 hb.size,fun _ k=>h.2 _ (hb.trans k)⟩
theorem EnvB.fr {B b t:Nat} {w w':World} (h:EnvB B w) (hb:B≤b) (ht:B≤t) (hf:Fr [b,t] w w'):EnvB B w':=h.below (hf.below h.1 (by simp;omega))
theorem EnvB.of {w:World} (h:Env w):EnvB w.heap.size w:=⟨Nat.le_refl _,fun _ k=>h.below k⟩
theorem Fr.one {b t:Nat} {w w':World} (h:Fr [b] w w'):Fr [b,t] w w':=h.mono (by simp)
/-- what a reading leaves: the token and the place behind it, or an error -/
def Reads (b t:Nat) (s:ByteArray) (a:Nat) (r:Tk × Int) (w:World) (e:Ending) (w':World):Prop :=
 e=.returned (.int .i64 r.2)∧Fr [b,t] w w'∧(∃ k c,k.pos=a∧TokAt t k w'∧LexAt b s c w'∧c≤s.size) ∧
  (r.2=0→TokAt t { r.1 with next:=0 } w'∧LexAt b s r.1.next w'∧r.1.next≤s.size∧r.1.pos=a)
theorem name_any (s:ByteArray) (hs:s.size≤1000000) (a b t B:Nat) (ha:a≤s.size) (hbt:b≠t) (hBb:B≤b) (hBt:B≤t) (w:World) (hb:LexAt b s a w) (ht:TokAt t ⟨1,a,0,0,0,[]⟩ w) (hE:EnvB B w) :
  Calls Tryz.prog 87 #[.pointer (some ⟨b,0,none⟩),.pointer (some ⟨t,0,none⟩)] w (Reads b t s a (nameS s.data.toList a) w):=by
 have hl:s.data.toList.length=s.size:=by simp
 have hfl:=far_le isNm s.data.toList (a:=a) (by rw[hl];exact ha);rw[hl]at hfl;have hw:=while_any 86 enters_name isNm (isName_any) s hs a b ha w hb;rw[part_bytes s a (a+far isNm s.data.toList a)]at hw;have HW:=zh hw;clear hw;have hlen:=part_length (l:=s.data.toList) (a:=a) (e:=a+far isNm s.data.toList a) (by rw[hl];exact hfl);have hr:=nameS.eq_def s.data.toList a;have HP:=zh (parse_any (part s.data.toList a (a+far isNm s.data.toList a)) (by rw[hlen];omega));rw[show a+far isNm s.data.toList a - a=far isNm s.data.toList a by omega]at hlen;generalize hn:far isNm s.data.toList a=n at *;generalize hi:a+n=i at *;generalize hq:part s.data.toList a i=q at *;simp only[hq]at hr;clear hn hi hq hl;by_cases h1:q=[110,97,110]∨q=[105,110,102]
 ·rw[if_pos h1]at hr;have HR:=zh hr;clear hr;generalize (parseB q).1=x at *;generalize (parseB q).2=y at *;by_cases h2:q=[110,97,110]
  ·have e1:(q==[110,97,110])=true:=by simp[h2]
   clear h1 h2;go_in;go_wp2_with fail
   refine(HW.out).mono ?_;rintro e w1 ⟨rfl,hlx,hfr⟩;have htk:=ht.kept hfr (by simp;omega);have z0:w1.cell? ⟨t,0,none⟩=some (.int .i64 1):=htk.cell 0;have f0:=htk.free 0;have htk2:TokAt t ⟨3,a,0,0,0,[]⟩ (w1.setCell ⟨t,0,none⟩ (.int .i64 3)):=htk.set 0 _ rfl;have hfr2:=hfr.one.setCell (l:=[b,t]) ⟨t,0,none⟩ (by simp) (.int .i64 3);have hlx2:=hlx.other ⟨t,0,none⟩ (.int .i64 3) hbt;have hE2:=hE.fr hBb hBt hfr2;go_wp2_with fail
   generalize w1.setCell ⟨t,0,none⟩ (.int .i64 3)=w2 at *;refine(HP.out _ hE2.here).mono ?_;rintro e w3 ⟨rfl,hb3⟩;have hf3:Fr [b,t] w2 w3:=Fr.of_below hb3;have hst:=store_float;have htk3:=htk2.kept (Fr.of_below (l:=[]) hb3) (by simp);have hlx3:=hlx2.kept (Fr.of_below (l:=[]) hb3) (by simp);have z4:w3.cell? ⟨t,4,none⟩=some (.float .f64 0):=htk3.cell 4;have f4:=htk3.free 4;have htk4:TokAt t ⟨3,a,0,0,x,[]⟩ (w3.setCell ⟨t,4,none⟩ (.float .f64 x)):=htk3.set 4 _ rfl;have hlx4:=hlx3.other ⟨t,4,none⟩ (.float .f64 x) hbt;have hfr4:=(hfr2.trans hf3).setCell (l:=[b,t]) ⟨t,4,none⟩ (by simp) (.float .f64 x);go_wp2_with fail
   go_ret;exact⟨ret_val (by rw[HR.out];rfl),hfr4,⟨_,i,rfl,htk4,hlx4,hfl⟩,fun _=>by rw[HR.out];exact⟨htk4,hlx4,hfl,rfl⟩⟩
  ·have e1:(q==[110,97,110])=false:=by simp[h2]
   have e2:(q==[105,110,102])=true:=by rcases h1 with h|h;exact absurd h h2;simp[h]
   clear h1 h2;go_in;go_wp2_with fail
   refine(HW.out).mono ?_;rintro e w1 ⟨rfl,hlx,hfr⟩;have htk:=ht.kept hfr (by simp;omega);have z0:w1.cell? ⟨t,0,none⟩=some (.int .i64 1):=htk.cell 0;have f0:=htk.free 0;have htk2:TokAt t ⟨3,a,0,0,0,[]⟩ (w1.setCell ⟨t,0,none⟩ (.int .i64 3)):=htk.set 0 _ rfl;have hfr2:=hfr.one.setCell (l:=[b,t]) ⟨t,0,none⟩ (by simp) (.int .i64 3);have hlx2:=hlx.other ⟨t,0,none⟩ (.int .i64 3) hbt;have hE2:=hE.fr hBb hBt hfr2;go_wp2_with fail
   generalize w1.setCell ⟨t,0,none⟩ (.int .i64 3)=w2 at *;refine(HP.out _ hE2.here).mono ?_;rintro e w3 ⟨rfl,hb3⟩;have hf3:Fr [b,t] w2 w3:=Fr.of_below hb3;have hst:=store_float;have htk3:=htk2.kept (Fr.of_below (l:=[]) hb3) (by simp);have hlx3:=hlx2.kept (Fr.of_below (l:=[]) hb3) (by simp);have z4:w3.cell? ⟨t,4,none⟩=some (.float .f64 0):=htk3.cell 4;have f4:=htk3.free 4;have htk4:TokAt t ⟨3,a,0,0,x,[]⟩ (w3.setCell ⟨t,4,none⟩ (.float .f64 x)):=htk3.set 4 _ rfl;have hlx4:=hlx3.other ⟨t,4,none⟩ (.float .f64 x) hbt;have hfr4:=(hfr2.trans hf3).setCell (l:=[b,t]) ⟨t,4,none⟩ (by simp) (.float .f64 x);go_wp2_with fail
   go_ret;exact⟨ret_val (by rw[HR.out];rfl),hfr4,⟨_,i,rfl,htk4,hlx4,hfl⟩,fun _=>by rw[HR.out];exact⟨htk4,hlx4,hfl,rfl⟩⟩
 ·rw[if_neg h1]at hr;have e1:(q==[110,97,110])=false:=beq_eq_false_iff_ne.2 (fun h=>h1 (.inl h));have e2:(q==[105,110,102])=false:=beq_eq_false_iff_ne.2 (fun h=>h1 (.inr h));clear h1;by_cases h3:30<n
  ·rw[if_pos h3]at hr;have HR:=zh hr;clear hr;have e3:decide ((30:Int)<(n:Int))=true:=by simp;omega
   go_in;go_wp2_with fail
   refine(HW.out).mono ?_;rintro e w1 ⟨rfl,hlx,hfr⟩;have htk:=ht.kept hfr (by simp;omega);go_wp2_with fail
   go_ret;exact⟨ret_val (by rw[HR.out];rfl),hfr.one,⟨_,i,rfl,htk,hlx,hfl⟩,fun h=>by rw[HR.out]at h;cases h⟩
  ·rw[if_neg h3]at hr;have HR:=zh hr;clear hr;have e3:decide ((30:Int)<(n:Int))=false:=by simp;omega
   go_in;go_wp2_with fail
   refine(HW.out).mono ?_;rintro e w1 ⟨rfl,hlx,hfr⟩;have htk:=ht.kept hfr (by simp;omega);have z0:w1.cell? ⟨t,0,none⟩=some (.int .i64 1):=htk.cell 0;have f0:=htk.free 0;have htk2:TokAt t ⟨5,a,0,0,0,[]⟩ (w1.setCell ⟨t,0,none⟩ (.int .i64 5)):=htk.set 0 _ rfl;have hfr2:=hfr.one.setCell (l:=[b,t]) ⟨t,0,none⟩ (by simp) (.int .i64 5);have hlx2:=hlx.other ⟨t,0,none⟩ (.int .i64 5) hbt;have z5:(w1.setCell ⟨t,0,none⟩ (.int .i64 5)).cell? ⟨t,5,none⟩=some (.string ⟨#[]⟩):=htk2.cell 5;have f5:=htk2.free 5;have y5:w1.cell? ⟨t,5,none⟩=some (.string ⟨#[]⟩):=htk.cell 5;have g5:=htk.free 5;have htk4:TokAt t ⟨5,a,0,0,0,q⟩ ((w1.setCell ⟨t,0,none⟩ (.int .i64 5)).setCell ⟨t,5,none⟩ (.string ⟨q.toArray⟩)):=htk2.set 5 _ rfl;have hlx4:=hlx2.other ⟨t,5,none⟩ (.string ⟨q.toArray⟩) hbt;have hfr4:=hfr2.setCell (l:=[b,t]) ⟨t,5,none⟩ (by simp) (.string ⟨q.toArray⟩);go_wp2_with fail
   go_ret;exact⟨ret_val (by rw[HR.out];rfl),hfr4,⟨_,i,rfl,htk4,hlx4,hfl⟩,fun _=>by rw[HR.out];exact⟨htk4,hlx4,hfl,rfl⟩⟩
end
section
open Go.RowKit
theorem enters_prefix:∀ args w,(callFunc 115 args).run Tryz.prog w=.ok (.enter 115 args) w:=enters_of Tryz.func115 (by kernel_rfl) rfl
theorem drop_bytes (s:ByteArray) (a:Nat):(s.extract a s.size).data.toList=s.data.toList.drop a:=by
 simp only[ByteArray.data_extract,Array.toList_extract,List.extract_eq_take_drop];exact List.take_of_length_le (by rw[List.length_drop];simp)
def nOf (l:List UInt8) (a i:Nat):Nat:=if (twos.take i).any (fun p=>Lib.hasPrefix (l.drop a) p) then 2 else 1
theorem cell_kept {w:World} {b t i j:Nat} {x:Value} (h:b≠t):(w.setCell ⟨t,i,none⟩ x).cell? ⟨b,j,none⟩=w.cell? ⟨b,j,none⟩:=by
 have:=Below.heap_setCell w ⟨t,i,none⟩ x b h;unfold World.cell?;simp only[this]
theorem enters_index:∀ args w,(callFunc 116 args).run Tryz.prog w=.ok (.enter 116 args) w:=enters_of Tryz.func116 (by kernel_rfl) rfl
theorem index_neg:∀ (l:List UInt8) (c:UInt8),decide (Lib.indexByte l c<0)=!l.contains c
 | [],c=>rfl
 | x::l,c=>by
  have ih:=index_neg l c;have hge:=Lib.indexByte_ge l c;show decide ((if x==c then 0 else if Lib.indexByte l c == -1 then -1 else Lib.indexByte l c+1)<0)=!((x::l).contains c)
  rw[List.contains_cons];by_cases h:x=c
  ·subst h;simp
  ·have h1:(x==c)=false:=beq_eq_false_iff_ne.2 h;have h2:(c==x)=false:=beq_eq_false_iff_ne.2 (fun e=>h e.symm);rw[h1,h2,Bool.false_or,←ih];by_cases g:Lib.indexByte l c = -1
   ·rw[g];rfl
   ·have g1:(Lib.indexByte l c == -1)=false:=beq_eq_false_iff_ne.2 g;rw[g1];simp only[Bool.false_eq_true,if_false];apply decide_eq_decide.2
    omega
theorem sign_ix (c:UInt8):decide (Lib.indexByte ones c<0)=!ones.contains c:=index_neg ones c
theorem part_one {l:List UInt8} {a:Nat} (h:a<l.length):part l a (a+1)=[l.getD a 0]:=by
 unfold part;have e:l.getD a 0=l[a]:=by simp[List.getD,h]
 rw[show a+1 - a=1 by omega,List.drop_eq_getElem_cons h,e];rfl
theorem nOf_step (l:List UInt8) (a i:Nat) (h:i<4):nOf l a (i+1)=if Lib.hasPrefix (l.drop a) (twos.getD i []) then 2 else nOf l a i:=by
 unfold nOf;have ht:twos.take (i+1)=twos.take i++[twos.getD i []]:=by
  have:i=0∨i=1∨i=2∨i=3:=by omega
  rcases this with rfl|rfl|rfl|rfl<;>rfl
 rw[ht,List.any_append];cases h1:(twos.take i).any (fun p=>Lib.hasPrefix (l.drop a) p)<;>cases h2:Lib.hasPrefix (l.drop a) (twos.getD i [])<;>simp only[List.any_cons,List.any_nil,h2,Bool.or_false,Bool.or_true,if_true,Bool.false_eq_true,if_false]
theorem two_start (d:List UInt8) (x y:UInt8):Lib.hasPrefix d [x,y]=(d.take 2==[x,y]):=by
 unfold Lib.hasPrefix;rcases d with _|⟨u,_|⟨v,r⟩⟩
 ·rfl
 ·have h1:List.isPrefixOf [x,y] [u]=false:=by show(x==u&&false)=false;exact Bool.and_false _
  have h2:([u].take 2==[x,y])=false:=by
   rw[beq_eq_false_iff_ne];intro e;cases e
  rw[h1,h2]
 ·show(x==u&&(y==v&&true))=(u==x&&(v==y&&true));rw[Bool.beq_comm (a:=x),Bool.beq_comm (a:=y)]
theorem nOf_all (l:List UInt8) (a:Nat):nOf l a 4=if twos.contains (part l a (a+2)) then 2 else 1:=by
 unfold nOf part;rw[show a+2 - a=2 by omega];have ht:(twos.take 4).any (fun p=>Lib.hasPrefix (l.drop a) p)=twos.contains ((l.drop a).take 2):=by
  show(Lib.hasPrefix (l.drop a) [61,61]||(Lib.hasPrefix (l.drop a) [60,61]||(Lib.hasPrefix (l.drop a) [38,38]||(Lib.hasPrefix (l.drop a) [124,124]||false))))=(((l.drop a).take 2==[61,61])||(((l.drop a).take 2==[60,61])||(((l.drop a).take 2==[38,38])||(((l.drop a).take 2==[124,124])||false))));rw[two_start,two_start,two_start,two_start]
 rw[ht]
theorem two_len {l:List UInt8} {a:Nat} (h:twos.contains (part l a (a+2))=true):a+2≤l.length:=by
 have:(part l a (a+2)).length=2:=by
  have hm:=List.contains_iff_mem.1 h;simp only[twos,List.mem_cons,List.not_mem_nil,or_false]at hm;rcases hm with e|e|e|e<;>rw[e]<;>rfl
 unfold part at this;rw[List.length_take,List.length_drop]at this;omega
theorem sign_any (s:ByteArray) (hs:s.size≤1000000) (a b t:Nat) (ha:a<s.size) (hbt:b≠t) (w:World) (hb:LexAt b s a w) (ht:TokAt t ⟨1,a,0,0,0,[]⟩ w) :
  Calls Tryz.prog 89 #[.pointer (some ⟨b,0,none⟩),.pointer (some ⟨t,0,none⟩)] w (Reads b t s a (signS s.data.toList a) w):=by
 have HP:=zh (fun p w=>Tryz.strings_HasPrefix (s.extract a s.size) p w);have hd:=drop_bytes s a;have HN:=zh (nOf_step s.data.toList a);have HD:=zh hd;clear hd;have d0:=hb.c0;have d1:=hb.c1;have hen:=enters_prefix;have HL:s.data.toList.length=s.size:=by simp
 have HR:=signS.eq_def s.data.toList a;have hblt:=lt_of_block hb;have htlt:=lt_of_block ht;go_in;go_wp2_with fail
 have hfr0:=(Fr.refl [b,t] w).alloc (.cells #[.string ⟨#[61,61]⟩,.string ⟨#[60,61]⟩,.string ⟨#[38,38]⟩,.string ⟨#[124,124]⟩] 9);have hlx0:=hb.kept ((Fr.refl [] w).alloc (.cells #[.string ⟨#[61,61]⟩,.string ⟨#[60,61]⟩,.string ⟨#[38,38]⟩,.string ⟨#[124,124]⟩] 9)) (by simp);have htk0:=ht.kept ((Fr.refl [] w).alloc (.cells #[.string ⟨#[61,61]⟩,.string ⟨#[60,61]⟩,.string ⟨#[38,38]⟩,.string ⟨#[124,124]⟩] 9)) (by simp);have hnew:(w.alloc (.cells #[.string ⟨#[61,61]⟩,.string ⟨#[60,61]⟩,.string ⟨#[38,38]⟩,.string ⟨#[124,124]⟩] 9)).heap[w.heap.size]?=some (.cells #[.string ⟨#[61,61]⟩,.string ⟨#[60,61]⟩,.string ⟨#[38,38]⟩,.string ⟨#[124,124]⟩] 9 (0,0)):=heap_alloc_new w _;generalize w.alloc (.cells #[.string ⟨#[61,61]⟩,.string ⟨#[60,61]⟩,.string ⟨#[38,38]⟩,.string ⟨#[124,124]⟩] 9)=W at *;have hle:a≤s.size:=by omega
 generalize hgh:w.heap.size=H at *;go_loopw [5,10] (fun nv iv wr=>∃ i:Nat,i≤4∧LexAt b s a wr∧TokAt t ⟨1,a,0,0,0,[]⟩ wr∧Fr [b,t] w wr∧wr.heap[H]?=some (.cells #[.string ⟨#[61,61]⟩,.string ⟨#[60,61]⟩,.string ⟨#[38,38]⟩,.string ⟨#[124,124]⟩] 9 (0,0))∧iv=.int .i64 i∧nv=.int .i64 (nOf s.data.toList a i)) (fun _ iv _=>4 - (intOf iv).toNat)
 case atStart=>exact⟨0,by omega,hlx0,htk0,hfr0,hnew,rfl,rfl⟩
 case round =>
  obtain⟨i,hi,hlx,htk,hfr,hnw,rfl,rfl⟩:=hrel;have q0:wr.cell? ⟨H,0,none⟩=some (.string ⟨#[61,61]⟩):=zc hnw 0;have q1:wr.cell? ⟨H,1,none⟩=some (.string ⟨#[60,61]⟩):=zc hnw 1;have q2:wr.cell? ⟨H,2,none⟩=some (.string ⟨#[38,38]⟩):=zc hnw 2;have q3:wr.cell? ⟨H,3,none⟩=some (.string ⟨#[124,124]⟩):=zc hnw 3;have l0:=hlx.c0;have l1:=hlx.c1;have m1:=hlx.f1;have hcase:i=0∨i=1∨i=2∨i=3∨i=4:=by omega
  rcases hcase with rfl|rfl|rfl|rfl|rfl
  ·have hst:=HN.out 0 (by omega);have hp:=HP.out ⟨#[61,61]⟩;rw[HD.out,show(⟨#[61,61]⟩:ByteArray).data.toList=[61,61] from rfl]at hp;rw[show twos.getD 0 []=[61,61] from rfl]at hst;cases hv:Lib.hasPrefix (s.data.toList.drop a) [61,61]
   ·rw[hv]at hp hst;have HPP:=zh hp;clear hp;go_wp2_with fail
    go_quiet (refine Calls.quiet_of_same (HPP.out _))
    go_wp2
    go_roundw
    case rel=>exact⟨1,by omega,hlx.drewN _,htk.drewN _,hfr.drewN _,hnw,rfl,by rw[hst];rfl⟩
    case measure=>simp[intOf]
   ·rw[hv]at hp hst;have HPP:=zh hp;clear hp;go_wp2_with fail
    go_quiet (refine Calls.quiet_of_same (HPP.out _))
    go_wp2
    go_roundw
    case rel=>exact⟨1,by omega,hlx.drewN _,htk.drewN _,hfr.drewN _,hnw,rfl,by rw[hst];rfl⟩
    case measure=>simp[intOf]
  ·have hst:=HN.out 1 (by omega);have hp:=HP.out ⟨#[60,61]⟩;rw[HD.out,show(⟨#[60,61]⟩:ByteArray).data.toList=[60,61] from rfl]at hp;rw[show twos.getD 1 []=[60,61] from rfl]at hst;cases hv:Lib.hasPrefix (s.data.toList.drop a) [60,61]
   ·rw[hv]at hp hst;have HPP:=zh hp;clear hp;go_wp2_with fail
    go_quiet (refine Calls.quiet_of_same (HPP.out _))
    go_wp2
    go_roundw
    case rel=>exact⟨2,by omega,hlx.drewN _,htk.drewN _,hfr.drewN _,hnw,rfl,by rw[hst];rfl⟩
    case measure=>simp[intOf]
   ·rw[hv]at hp hst;have HPP:=zh hp;clear hp;go_wp2_with fail
    go_quiet (refine Calls.quiet_of_same (HPP.out _))
    go_wp2
    go_roundw
    case rel=>exact⟨2,by omega,hlx.drewN _,htk.drewN _,hfr.drewN _,hnw,rfl,by rw[hst];rfl⟩
    case measure=>simp[intOf]
  ·have hst:=HN.out 2 (by omega);have hp:=HP.out ⟨#[38,38]⟩;rw[HD.out,show(⟨#[38,38]⟩:ByteArray).data.toList=[38,38] from rfl]at hp;rw[show twos.getD 2 []=[38,38] from rfl]at hst;cases hv:Lib.hasPrefix (s.data.toList.drop a) [38,38]
   ·rw[hv]at hp hst;have HPP:=zh hp;clear hp;go_wp2_with fail
    go_quiet (refine Calls.quiet_of_same (HPP.out _))
    go_wp2
    go_roundw
    case rel=>exact⟨3,by omega,hlx.drewN _,htk.drewN _,hfr.drewN _,hnw,rfl,by rw[hst];rfl⟩
    case measure=>simp[intOf]
   ·rw[hv]at hp hst;have HPP:=zh hp;clear hp;go_wp2_with fail
    go_quiet (refine Calls.quiet_of_same (HPP.out _))
    go_wp2
    go_roundw
    case rel=>exact⟨3,by omega,hlx.drewN _,htk.drewN _,hfr.drewN _,hnw,rfl,by rw[hst];rfl⟩
    case measure=>simp[intOf]
  ·have hst:=HN.out 3 (by omega);have hp:=HP.out ⟨#[124,124]⟩;rw[HD.out,show(⟨#[124,124]⟩:ByteArray).data.toList=[124,124] from rfl]at hp;rw[show twos.getD 3 []=[124,124] from rfl]at hst;cases hv:Lib.hasPrefix (s.data.toList.drop a) [124,124]
   ·rw[hv]at hp hst;have HPP:=zh hp;clear hp;go_wp2_with fail
    go_quiet (refine Calls.quiet_of_same (HPP.out _))
    go_wp2
    go_roundw
    case rel=>exact⟨4,by omega,hlx.drewN _,htk.drewN _,hfr.drewN _,hnw,rfl,by rw[hst];rfl⟩
    case measure=>simp[intOf]
   ·rw[hv]at hp hst;have HPP:=zh hp;clear hp;go_wp2_with fail
    go_quiet (refine Calls.quiet_of_same (HPP.out _))
    go_wp2
    go_roundw
    case rel=>exact⟨4,by omega,hlx.drewN _,htk.drewN _,hfr.drewN _,hnw,rfl,by rw[hst];rfl⟩
    case measure=>simp[intOf]
  ·by_cases h2:twos.contains (part s.data.toList a (a+2))=true
   ·have hn2:nOf s.data.toList a 4=2:=by rw[nOf_all,if_pos h2]
    have hsz:=two_len h2;rw[HL]at hsz;rw[if_pos h2]at HR;rw[hn2];have HR:=zh HR;clear hn2 h2;go_wp2_with fail
    go_quiet (fail)
    go_wp2
    have A1:LexAt b s (a+2) ((wr.drewN nq).setCell ⟨b,1,none⟩ (.int .i64 ((a:Int)+2))):=(hlx.drewN nq).put (a+2);have A2:=(htk.drewN nq).other ⟨b,1,none⟩ (.int .i64 ((a:Int)+2)) (Ne.symm hbt);have A3:=(hfr.drewN nq).setCell (l:=[b,t]) ⟨b,1,none⟩ (by simp) (.int .i64 ((a:Int)+2));generalize (wr.drewN nq).setCell ⟨b,1,none⟩ (.int .i64 ((a:Int)+2))=W2 at *;generalize hc:a+2=c at A1 HR hsz;have b0:=A1.c0;have b1:=A1.c1;have t0:W2.cell? ⟨t,0,none⟩=some (.int .i64 1):=A2.cell 0;have t5:W2.cell? ⟨t,5,none⟩=some (.string ⟨#[]⟩):=A2.cell 5;have g0:=A2.free 0;have g5:=A2.free 5;have w1:IntKind.i64.wrap ((c:Int) - 2)=(a:Int):=by rw[show(c:Int) - 2=a by omega,IntKind.wrap_i64];omega
    have w0:IntKind.i64.wrap (a:Int)=(a:Int):=by rw[IntKind.wrap_i64];omega
    have w3:(c:Int)≤(s.size:Int):=by omega
    have w4:(0:Int)≤(a:Int):=by omega
    have w5:(a:Int)≤(c:Int):=by omega
    have w6:a≤c:=by omega
    go_region_held3 (fun w'=>w'.cell? ⟨b,0,none⟩=some (.string s)∧w'.cell? ⟨b,1,none⟩=some (.int .i64 (c:Int))) (first|exact⟨(cell_kept hbt).trans b0,(cell_kept hbt).trans b1⟩|exact⟨(cell_kept hbt).trans ((cell_kept hbt).trans b0),(cell_kept hbt).trans ((cell_kept hbt).trans b1)⟩|exact⟨b0,b1⟩) (fail)
    go_wp2_with fail
    go_ret;have F1:TokAt t ⟨6,a,0,0,0,part s.data.toList a c⟩ (((W2.setCell ⟨t,0,none⟩ (.int .i64 6)).setCell ⟨t,5,none⟩ (.string (s.extract a c)))):=(A2.set (k':=⟨6,a,0,0,0,[]⟩) 0 _ rfl).set 5 _ (by rw[part_bytes s a c];rfl);have F2:=(A1.other ⟨t,0,none⟩ (.int .i64 6) hbt).other ⟨t,5,none⟩ (.string (s.extract a c)) hbt;have F3:=(A3.setCell (l:=[b,t]) ⟨t,0,none⟩ (by simp) (.int .i64 6)).setCell (l:=[b,t]) ⟨t,5,none⟩ (by simp) (.string (s.extract a c));exact⟨ret_val (by rw[HR.out];rfl),F3.drewN 1,⟨_,c,rfl,F1,F2,hsz⟩,fun _=>by rw[HR.out];exact⟨F1,F2,hsz,rfl⟩⟩
   ·have hn2:nOf s.data.toList a 4=1:=by rw[nOf_all,if_neg h2]
    rw[if_neg h2]at HR;rw[hn2];have HI:=Tryz.strings_IndexByte ⟨ones.toArray⟩ ((s[a]'ha).toNat:Int);rw[show(⟨ones.toArray⟩:ByteArray).data.toList=ones from rfl]at HI;have hci:((s[a]'ha).toNat:Int).toNat.toUInt8=s.data.toList.getD a 0:=by
     have:s[a]'ha=s.data.toList.getD a 0:=by simp[List.getD,ha];rfl
     rw[←this];simp
    rw[hci]at HI;have hix:=sign_ix (s.data.toList.getD a 0);have henI:=enters_index;clear hn2 h2 hci;have HII:=zh HI;clear HI;generalize Lib.indexByte ones (s.data.toList.getD a 0)=ix at *;by_cases h3:ones.contains (s.data.toList.getD a 0)=true
    ·rw[if_pos h3]at HR;rw[h3]at hix;have HR:=zh HR;have hsz:a+1≤s.size:=by omega
     have hp1:=part_one (l:=s.data.toList) (a:=a) (by rw[HL];exact ha);clear h3;go_wp2_with fail
     go_quiet (refine Calls.quiet_of_same (HII.out _))
     go_wp2
     have A1:LexAt b s (a+1) ((wr.drewN nq).setCell ⟨b,1,none⟩ (.int .i64 ((a:Int)+1))):=(hlx.drewN nq).put (a+1);have A2:=(htk.drewN nq).other ⟨b,1,none⟩ (.int .i64 ((a:Int)+1)) (Ne.symm hbt);have A3:=(hfr.drewN nq).setCell (l:=[b,t]) ⟨b,1,none⟩ (by simp) (.int .i64 ((a:Int)+1));generalize (wr.drewN nq).setCell ⟨b,1,none⟩ (.int .i64 ((a:Int)+1))=W2 at *;generalize hc:a+1=c at A1 HR hsz;have b0:=A1.c0;have b1:=A1.c1;have t0:W2.cell? ⟨t,0,none⟩=some (.int .i64 1):=A2.cell 0;have t5:W2.cell? ⟨t,5,none⟩=some (.string ⟨#[]⟩):=A2.cell 5;have g0:=A2.free 0;have g5:=A2.free 5;have w1:IntKind.i64.wrap ((c:Int) - 1)=(a:Int):=by rw[show(c:Int) - 1=a by omega,IntKind.wrap_i64];omega
     have w0:IntKind.i64.wrap (a:Int)=(a:Int):=by rw[IntKind.wrap_i64];omega
     have w3:(c:Int)≤(s.size:Int):=by omega
     have w4:(0:Int)≤(a:Int):=by omega
     have w5:(a:Int)≤(c:Int):=by omega
     have w6:a≤c:=by omega
     go_region_held3 (fun w'=>w'.cell? ⟨b,0,none⟩=some (.string s)∧w'.cell? ⟨b,1,none⟩=some (.int .i64 (c:Int))) (first|exact⟨(cell_kept hbt).trans b0,(cell_kept hbt).trans b1⟩|exact⟨(cell_kept hbt).trans ((cell_kept hbt).trans b0),(cell_kept hbt).trans ((cell_kept hbt).trans b1)⟩|exact⟨b0,b1⟩) (fail)
     go_wp2_with fail
     go_ret;have F1:TokAt t ⟨6,a,0,0,0,[s.data.toList.getD a 0]⟩ (((W2.setCell ⟨t,0,none⟩ (.int .i64 6)).setCell ⟨t,5,none⟩ (.string (s.extract a c)))):=(A2.set (k':=⟨6,a,0,0,0,[]⟩) 0 _ rfl).set 5 _ (by rw[part_bytes s a c,←hc,hp1];rfl);have F2:=(A1.other ⟨t,0,none⟩ (.int .i64 6) hbt).other ⟨t,5,none⟩ (.string (s.extract a c)) hbt;have F3:=(A3.setCell (l:=[b,t]) ⟨t,0,none⟩ (by simp) (.int .i64 6)).setCell (l:=[b,t]) ⟨t,5,none⟩ (by simp) (.string (s.extract a c));exact⟨ret_val (by rw[HR.out];rfl),F3.drewN 1,⟨_,c,rfl,F1,F2,hsz⟩,fun _=>by rw[HR.out];exact⟨F1,F2,hsz,rfl⟩⟩
    ·rw[if_neg h3]at HR;rw[show ones.contains (s.data.toList.getD a 0)=false by simpa using h3]at hix;have HR:=zh HR;clear h3;go_wp2_with fail
     go_quiet (refine Calls.quiet_of_same (HII.out _))
     go_wp2
     go_ret;exact⟨ret_val (by rw[HR.out];rfl),hfr.drewN _,⟨_,a,rfl,htk.drewN _,hlx.drewN _,hle⟩,fun h=>by rw[HR.out]at h;cases h⟩
end
end Go.Proofs.YtaaaaggmhjhkkaaGreatDoor
