/-
  He, H0, Hr, H2, H3 in one text.
-/
import Derived.Test.YtaaaaggmhjhkkaaGreatDoorS34
import Derived.Test.YtaaaaggmhjhkkaaGreatDoorS37
import Derived.Test.YtaaaaggmhjhkkaaGreatDoorCl
set_option maxRecDepth 100000
set_option maxHeartbeats 4000000
namespace Go.Proofs.YtaaaaggmhjhkkaaGreatDoor
section
open Go.RowKit
theorem awake8_0:(parseX [49,43,50,42,120]).2.2=0∧textE (parseX [49,43,50,42,120]).1=[40,49,43,40,50,42,120,41,41]:=⟨by kernel_rfl,by kernel_rfl⟩
theorem awake8_1:(parseX [97,46,98,91,48,93,32,63,32,45,49,32,58,32,33,99]).2.2=0∧textE (parseX [97,46,98,91,48,93,32,63,32,45,49,32,58,32,33,99]).1=[40,97,46,98,91,48,93,63,40,45,49,41,58,40,33,99,41,41]:=⟨by kernel_rfl,by kernel_rfl⟩
theorem awake8_2:(parseX [123,98,58,49,44,97,58,50,125]).2.2=0∧textE (parseX [123,98,58,49,44,97,58,50,125]).1=[123,97,58,50,44,98,58,49,125]:=⟨by kernel_rfl,by kernel_rfl⟩
theorem awake8_3:(parseX [40,49,41,46,97]).2.2=0∧textE (parseX [40,49,41,46,97]).1=[40,49,41,46,97]:=⟨by kernel_rfl,by kernel_rfl⟩
theorem awake8_e:(parseX [49,32,43]).2=(3,5):=by kernel_rfl
theorem again_any (s t:List UInt8) (hp:(parseX s).2.2=0∧textE (parseX s).1=t) (w:World) (hEn:Env w):Calls Tryz.prog 20 #[.string ⟨s.toArray⟩] w (Gives (.string ⟨t.toArray⟩) w):=by
 have hsf:∀ (a:Addr) (x:Nat) (m:Mode) (w:World),(store a (.float .f64 x) m).run Tryz.prog w=stored Tryz.prog w a (.float .f64 x) m:=fun a x m w=>run_store _ w a _ m rfl
 obtain⟨h0,ht⟩:=hp;have hw:=parse_was h0;have HP:=zh (pParse_any ⟨s.toArray⟩ w hEn);have e0:(⟨s.toArray⟩:ByteArray).data.toList=s:=rfl;rw[e0]at HP;have hr:textR (parseX s).1=.tuple #[.string ⟨t.toArray⟩,.int .i64 0]:=by unfold textR;rw[if_pos hw.2.2.2.1,ht]
 have hR:=zh hr;clear hw ht hr e0;go_in;go_wp2_with fail
 refine(HP.out).mono ?_;rintro e w1 ⟨d,cs,rfl,hx,hb⟩;rw[h0];generalize (parseX s).1=x at *;generalize (parseX s).2.1=at0 at *;obtain⟨q1,r1,s1,u1,n1,m1,k1,l1,rfl⟩:=hx.form4;have hE1:=hEn.below hb;clear HP h0;go_upto_region 2 with (fail)
 have hn:=heap_alloc_new w1 (.cells #[.int .i64 x.kind,.string ⟨x.str.toArray⟩,.int .i64 x.v.kind,.int .i64 x.v.num,.float .f64 x.v.flt,.string ⟨x.v.str.toArray⟩,.slice q1 x.v.names.length r1,.slice s1 x.v.items.length u1,.slice n1 x.names.length m1,.slice k1 x.kids.length l1] 29);have hA:Below w1.heap.size w1 (w1.alloc (.cells #[.int .i64 x.kind,.string ⟨x.str.toArray⟩,.int .i64 x.v.kind,.int .i64 x.v.num,.float .f64 x.v.flt,.string ⟨x.v.str.toArray⟩,.slice q1 x.v.names.length r1,.slice s1 x.v.items.length u1,.slice n1 x.names.length m1,.slice k1 x.kids.length l1] 29)):=(Below.refl _ _).alloc (Nat.le_refl _) _;generalize w1.alloc (.cells #[.int .i64 x.kind,.string ⟨x.str.toArray⟩,.int .i64 x.v.kind,.int .i64 x.v.num,.float .f64 x.v.flt,.string ⟨x.v.str.toArray⟩,.slice q1 x.v.names.length r1,.slice s1 x.v.items.length u1,.slice n1 x.names.length m1,.slice k1 x.kids.length l1] 29)=W1 at *;have HT:=zh (pText_any d x _ W1 (hE1.below hA) (hx.at'.keptA hA));rw[hR.out]at HT;clear hx hE1;obtain⟨a0,a1,a2,a3,a4,a5,a6,a7,a8,a9⟩:=cells10 hn;clear hn;go_wp2_with fail
 refine(HT.out).mono ?_;rintro e w2 ⟨rfl,hb2⟩;go_wp2_with fail
 go_ret;exact⟨ret_val rfl,below_tr' (below_tr' hb hA) hb2⟩
theorem awake8_any (w:World) (hEn:Env w):Calls Tryz.prog 7 #[] w (Gives (.bool true) w):=by
 have hsf:∀ (a:Addr) (x:Nat) (m:Mode) (w:World),(store a (.float .f64 x) m).run Tryz.prog w=stored Tryz.prog w a (.float .f64 x) m:=fun a x m w=>run_store _ w a _ m rfl
 have HP:=zh (pParse_any ⟨#[49,32,43]⟩ w hEn);have e0:(⟨#[49,32,43]⟩:ByteArray).data.toList=[49,32,43]:=rfl;rw[e0]at HP;clear e0;have HA:=zh again_any;go_in;go_wp2_with fail
 refine(HP.out).mono ?_;rintro e w1 ⟨d,cs,rfl,hx,hb⟩;rw[awake8_e];generalize (parseX [49,32,43]).1=x at *;obtain⟨q1,r1,s1,u1,n1,m1,k1,l1,rfl⟩:=hx.form4;have hE1:=hEn.below hb;clear HP hx;go_upto_region 2 with (fail)
 have hA:Below w1.heap.size w1 (w1.alloc (.cells #[.int .i64 x.kind,.string ⟨x.str.toArray⟩,.int .i64 x.v.kind,.int .i64 x.v.num,.float .f64 x.v.flt,.string ⟨x.v.str.toArray⟩,.slice q1 x.v.names.length r1,.slice s1 x.v.items.length u1,.slice n1 x.names.length m1,.slice k1 x.kids.length l1] 29)):=(Below.refl _ _).alloc (Nat.le_refl _) _;generalize w1.alloc (.cells #[.int .i64 x.kind,.string ⟨x.str.toArray⟩,.int .i64 x.v.kind,.int .i64 x.v.num,.float .f64 x.v.flt,.string ⟨x.v.str.toArray⟩,.slice q1 x.v.names.length r1,.slice s1 x.v.items.length u1,.slice n1 x.names.length m1,.slice k1 x.kids.length l1] 29)=W1 at *;have hE2:=hE1.below hA;have hb2:=below_tr' hb hA;clear hA;go_wp2_with fail
 refine(HA.out _ _ awake8_0 _ hE2).mono ?_;rintro e w3 ⟨rfl,hc0⟩;replace hb2:=below_tr' hb2 hc0;replace hE2:=hE2.below hc0;clear hc0;go_wp2_with fail
 refine(HA.out _ _ awake8_1 _ hE2).mono ?_;rintro e w4 ⟨rfl,hc1⟩;replace hb2:=below_tr' hb2 hc1;replace hE2:=hE2.below hc1;clear hc1;go_wp2_with fail
 refine(HA.out _ _ awake8_2 _ hE2).mono ?_;rintro e w5 ⟨rfl,hc2⟩;replace hb2:=below_tr' hb2 hc2;replace hE2:=hE2.below hc2;clear hc2;go_wp2_with fail
 refine(HA.out _ _ awake8_3 _ hE2).mono ?_;rintro e w6 ⟨rfl,hc3⟩;replace hb2:=below_tr' hb2 hc3;replace hE2:=hE2.below hc3;clear hc3;go_wp2_with fail
 go_ret;exact⟨ret_val rfl,hb2⟩
end
section
open Go.RowKit
theorem rword_any (l:List UInt8) (w:World):Calls Tryz.prog 59 #[.string ⟨l.toArray⟩] w fun e w'=>e=.returned (.bool (wordS l))∧w=w':=by
 have HW:=zh (wordS.eq_def l);cases e0:(l==[116,114,117,101])
 ·cases e1:(l==[102,97,108,115,101])
  ·cases e2:(l==[110,97,110])
   ·cases e3:(l==[105,110,102])
    ·cases e4:(l==[108,101,110])
     ·cases e5:(l==[102,108,111,97,116])
      ·cases e6:(l==[105,110,116])
       ·cases e7:(l==[115,116,114])
        ·go_in;go_wp2
         go_ret;exact⟨ret_val (by rw[HW.out,e0,e1,e2,e3,e4,e5,e6,e7];rfl),rfl⟩
        ·go_in;go_wp2
         go_ret;exact⟨ret_val (by rw[HW.out,e0,e1,e2,e3,e4,e5,e6,e7];rfl),rfl⟩
       ·go_in;go_wp2
        go_ret;exact⟨ret_val (by rw[HW.out,e0,e1,e2,e3,e4,e5,e6];rfl),rfl⟩
      ·go_in;go_wp2
       go_ret;exact⟨ret_val (by rw[HW.out,e0,e1,e2,e3,e4,e5];rfl),rfl⟩
     ·go_in;go_wp2
      go_ret;exact⟨ret_val (by rw[HW.out,e0,e1,e2,e3,e4];rfl),rfl⟩
    ·go_in;go_wp2
     go_ret;exact⟨ret_val (by rw[HW.out,e0,e1,e2,e3];rfl),rfl⟩
   ·go_in;go_wp2
    go_ret;exact⟨ret_val (by rw[HW.out,e0,e1,e2];rfl),rfl⟩
  ·go_in;go_wp2
   go_ret;exact⟨ret_val (by rw[HW.out,e0,e1];rfl),rfl⟩
 ·go_in;go_wp2
  go_ret;exact⟨ret_val (by rw[HW.out,e0];rfl),rfl⟩
end
section
open Go.RowKit
theorem shl12 (b:Nat):IntKind.u64.wrap ((b:Int)*4096) / 4096=((Fl.rg b % 4503599627370496:Nat):Int):=by
 rw[IntKind.wrap_u64];unfold Fl.rg;omega
theorem shl1 (b:Nat):IntKind.u64.wrap ((b:Int)*2) / 9007199254740992=((Fl.rg b / 4503599627370496:Nat):Int):=by
 rw[bits_shl];omega
def partsN (r:Nat):Nat:=if r=0 then 0 else txtN r
def partsE (r:Nat):Int:=if r=0 then 0 else txtE r
theorem parts_ret (m:Nat) (x y:Int) (h:x=y):Value.tuple #[.int .u64 m,.int .i64 x]=.tuple #[.int .u64 m,.int .i64 y]:=by rw[h]
theorem strip_step {n m k:Nat} (h:m % 2=0) (e:Hid (n=m*2 ^ k)):Hid (n=(m / 2)*2 ^ (k+1)):=by
 show _=_;rw[e.out,Nat.pow_succ,Nat.mul_comm (2 ^ k) 2,←Nat.mul_assoc];congr 1;omega
theorem strip_bounds {n m j:Nat} (hn:n≤9007199254740992) (hm:1≤m) (e:n=m*2 ^ j):m≤9007199254740992∧j≤53:=by
 have hp:=Nat.two_pow_pos j;constructor
 ·have:m≤m*2 ^ j:=Nat.le_mul_of_pos_right _ hp;omega
 ·have h2:2 ^ j≤m*2 ^ j:=Nat.le_mul_of_pos_left _ hm;have h3:2 ^ j≤2 ^ 53:=by omega
  exact(Nat.pow_le_pow_iff_right (by omega:1<2)).1 h3
theorem rparts3_any (b:Nat) (hf:Fl.rg b<9218868437227405312) (w:World) :
  Calls Tryz.prog 73 #[.float .f64 b] w fun e w'=>e=.returned (.tuple #[.int .u64 (partsN (Fl.rg b)),.int .i64 (partsE (Fl.rg b))])∧w=w':=by
 have HN:=zh (partsN.eq_def (Fl.rg b));have HE:=zh (partsE.eq_def (Fl.rg b));have hbr:=bits_run;have s1:=shl12 b;have s2:=shl1 b;have HM:=zh (show Fl.mag (Fl.rg b)=if Fl.rg b<4503599627370496 then Fl.rg b else 4503599627370496+Fl.rg b % 4503599627370496 from rfl)
 have HP:=zh (show Fl.plc (Fl.rg b)=if Fl.rg b<4503599627370496 then 0 else Fl.rg b / 4503599627370496 - 1 from rfl)
 have hmo:=@mag_ne (Fl.rg b);have HTN:=zh (show txtN (Fl.rg b)=odd (Fl.mag (Fl.rg b)) from rfl);have HTE:=zh (show txtE (Fl.rg b)=(tz (Fl.mag (Fl.rg b)):Int)+Fl.plc (Fl.rg b) - 1074 from rfl);have HML:=zh (Fl.mag_lt (Fl.rg b));have hpl:=Fl.plc_le hf;generalize Fl.rg b=r at *;have hq:r / 4503599627370496<2047:=by omega
 have hm0:r % 4503599627370496<4503599627370496:=Nat.mod_lt _ (by omega)
 -- the magnitude and its place, as the code has them
 by_cases h0:r=0
 ·subst h0;rw[if_pos rfl]at HN HE;have s3:IntKind.u64.wrap ((b:Int)*4096) / 4096=0:=s1;have s4:IntKind.u64.wrap ((b:Int)*2) / 9007199254740992=0:=s2;clear s1 s2 hq hm0 hpl hmo hf;go_in;go_wp2
  go_ret2;exact⟨ret_val (by rw[HN.out,HE.out];rfl),rfl⟩
 ·rw[if_neg h0]at HN HE;have hmne:=hmo h0;have HMN:=zh hmne;clear hmo hmne;generalize Fl.mag r=m0 at *;generalize Fl.plc r=p0 at *;by_cases hs:r<4503599627370496
  ·rw[if_pos hs]at HM HP;have s3:IntKind.u64.wrap ((b:Int)*4096) / 4096=(m0:Int):=by rw[s1,HM.out];omega
   have s4:IntKind.u64.wrap ((b:Int)*2) / 9007199254740992=0:=by rw[s2];omega
   have hz:((m0:Int)==0)=false:=by have:=HMN.out;simp;exact this
   have hlt:m0<9007199254740992:=HML.out;clear s1 s2 hq hm0 hf h0 hs;go_in;go_wp2
   go_loop [5,6] (fun mv ev=>∃ k m:Nat,1≤m∧Hid (m0=m*2 ^ k)∧ev=.int .i64 (-1074+k)∧mv=.int .u64 m) (fun mv _=>(intOf mv).toNat)
   case atStart=>exact⟨0,m0,by have:=HMN.out;omega,by show _=_;simp,rfl,rfl⟩
   case round =>
    obtain⟨k,m,hm1,hkm,rfl,rfl⟩:=hrel;obtain⟨hb1,hb2⟩:=strip_bounds (by omega) hm1 hkm.out;by_cases hp:m % 2=0
    ·have ht:((m:Int) % 2==0)=true:=by simp;omega
     have HP2:=zh hp;clear hp;go_wp2
     go_round
     case rel=>exact⟨k+1,m / 2,by have:=HP2.out;omega,strip_step HP2.out hkm,by go_num,by congr 1⟩
     case measure=>simp[intOf];omega
    ·have ht:((m:Int) % 2==0)=false:=by simp;omega
     have HF:=zh (odd_of (show m % 2=1 by omega) hkm.out (by omega));clear hp;go_wp2
     go_ret2;exact⟨ret_val (by rw[HN.out,HE.out,HTN.out,HTE.out,HF.out.1,HF.out.2,HP.out];exact parts_ret _ _ _ (by omega)),rfl⟩
  ·rw[if_neg hs]at HM HP;obtain⟨q,hqe⟩:∃ q,q=r / 4503599627370496:=⟨_,rfl⟩;obtain⟨f,hfe⟩:∃ f,f=r % 4503599627370496:=⟨_,rfl⟩;rw[←hfe]at s1 hm0 HM;rw[←hqe]at s2 hq HP;have hq1:1≤q:=by omega
   have hz1:((q:Int) - 1075 == -1075)=false:=by simp;omega
   have hz:((f:Int)+4503599627370496==0)=false:=by simp;omega
   have HQE:=zh hqe;clear hqe hfe hf h0 hs hpl;have hlt:m0<9007199254740992:=HML.out;go_in;go_wp2
   go_loop [5,6] (fun mv ev=>∃ k m:Nat,1≤m∧Hid (m0=m*2 ^ k)∧ev=.int .i64 ((q:Int) - 1075+k)∧mv=.int .u64 m) (fun mv _=>(intOf mv).toNat)
   case atStart=>exact⟨0,m0,by have:=HMN.out;omega,by show _=_;simp,by congr 1;omega,by rw[HM.out];congr 1;omega⟩
   case round =>
    obtain⟨k,m,hm1,hkm,rfl,rfl⟩:=hrel;obtain⟨hb1,hb2⟩:=strip_bounds (by omega) hm1 hkm.out;by_cases hp:m % 2=0
    ·have ht:((m:Int) % 2==0)=true:=by simp;omega
     have HP2:=zh hp;clear hp;go_wp2
     go_round
     case rel=>exact⟨k+1,m / 2,by have:=HP2.out;omega,strip_step HP2.out hkm,by go_num,by congr 1⟩
     case measure=>simp[intOf];omega
    ·have ht:((m:Int) % 2==0)=false:=by simp;omega
     have HF:=zh (odd_of (show m % 2=1 by omega) hkm.out (by omega));clear hp;go_wp2
     go_ret2;exact⟨ret_val (by rw[HN.out,HE.out,HTN.out,HTE.out,HF.out.1,HF.out.2,HP.out];exact parts_ret _ _ _ (by omega)),rfl⟩
/-- one more digit ahead -/
theorem dig_step {n0 m:Nat} {t:List UInt8} (h:Hid (Lib.decDigits n0=Lib.decDigits m++t)) (hm:10≤m):Hid (Lib.decDigits n0=Lib.decDigits (m / 10)++(UInt8.ofNat (48+m % 10)::t)):=by
 show _=_;rw[h.out];conv=>lhs;rw[Lib.decDigits,dif_neg (by omega)]
 simp
theorem dig_last {n0 m:Nat} {t:List UInt8} (h:Hid (Lib.decDigits n0=Lib.decDigits m++t)) (hm:m<10):Lib.decDigits n0=UInt8.ofNat (48+m % 10)::t:=by
 rw[h.out];conv=>lhs;rw[Lib.decDigits,dif_pos hm]
 rw[show m % 10=m by omega];rfl
theorem dig_len {n0 m:Nat} {t:List UInt8} (h:Hid (Lib.decDigits n0=Lib.decDigits m++t)) (hn:n0<18446744073709551616):t.length≤20:=by
 have:=dec_len n0 hn;rw[h.out,List.length_append]at this;omega
theorem join1 (c:UInt8) (t:List UInt8):Value.string (({ data:=#[c] }:ByteArray)++{ data:=t.toArray })=.string ⟨(c::t).toArray⟩:=by
 congr 1
theorem conv_one (m:Nat) (wr:World):(convert 50 9 (.slice (some ⟨wr.heap.size,0,none⟩) 1 1)).run Tryz.prog (wr.alloc (.cells #[.int .u8 (48+(m:Int) % 10)] 5))=.ok (.string ⟨#[UInt8.ofNat (48+m % 10)]⟩) (wr.alloc (.cells #[.int .u8 (48+(m:Int) % 10)] 5)):=by
 have h:=run_convert_bytes_back (P:=Tryz.prog) (wr.alloc (.cells #[.int .u8 (48+(m:Int) % 10)] 5)) 50 9 5 ⟨wr.heap.size,0,none⟩ 1 [UInt8.ofNat (48+m % 10)] Tryz.underlying50 Tryz.underlying5 Tryz.underlying9 (fun j hj=>by
  have:j=0:=by simpa using hj
  subst this;rw[Lib.add_plain,World.cell?_alloc_new];simp only[List.getElem_cons_zero];rw[dig_ofNat (show m % 10<10 by omega)];simp)
 exact h
theorem rdigits_any (n:Nat) (hn:n<18446744073709551616) (w:World) :
  Calls Tryz.prog 40 #[.int .u64 n] w fun e w'=>e=.returned (.string ⟨(Lib.decDigits n).toArray⟩)∧Below w.heap.size w w':=by
 have HN:=zh hn;clear hn;go_in;go_wp2
 go_loopw [0,3] (fun mv sv wr=>∃ (m:Nat) (t:List UInt8),m≤n∧Hid (Lib.decDigits n=Lib.decDigits m++t)∧mv=.int .u64 m∧sv=.string ⟨t.toArray⟩∧Below w.heap.size w wr) (fun mv _ _=>(intOf mv).toNat)
 case atStart=>exact⟨n,[],Nat.le_refl _,by show _=_;simp,rfl,rfl,Below.refl _ _⟩
 case round =>
  obtain⟨m,t,hmn,ht,rfl,rfl,hbel⟩:=hrel;have htl:=dig_len ht HN.out;have hcv:=conv_one m wr;generalize hc:UInt8.ofNat (48+m % 10)=c at hcv;have HC:=zh hc;clear hc;have hml:=Nat.lt_of_le_of_lt hmn HN.out;by_cases h10:m<10
  ·have hz:((m:Int) / 10==0)=true:=by simp;omega
   have HL:=zh (dig_last ht h10);clear h10;go_wp2
   go_ret;exact⟨ret_val (by rw[HL.out,HC.out];exact join1 _ _),hbel.alloc hbel.size _⟩
  ·have hz:((m:Int) / 10==0)=false:=by simp;omega
   have HS:=zh (dig_step ht (by omega));go_wp2
   go_roundw
   case rel=>exact⟨m / 10,c::t,by omega,by rw[←HC.out];exact HS.out,by congr 1,join1 _ _,hbel.alloc hbel.size _⟩
   case measure=>simp[intOf];omega
theorem parts_bounds {r:Nat} (h:r<9218868437227405312):partsN r<9007199254740992 ∧ -1074≤partsE r∧partsE r≤1023:=by
 unfold partsN partsE;by_cases h0:r=0
 ·rw[if_pos h0,if_pos h0];omega
 ·rw[if_neg h0,if_neg h0];obtain⟨a,b,c,_⟩:=txt_bounds h0 h;have:=c.1;have:=c.2;omega
theorem textB_parts {b:Nat} (h:Fl.rg b<9218868437227405312):textB b=(if Fl.ng b then [45] else [])++(Lib.decDigits (partsN (Fl.rg b))++112::Lib.itoa (partsE (Fl.rg b))):=by
 have hn:Fl.isNaN b=false:=by unfold Fl.isNaN;simp;omega
 unfold textB partsN partsE;rw[hn,if_neg (show Fl.rg b≠9218868437227405312 by omega)];by_cases h0:Fl.rg b=0
 ·rw[if_pos h0,if_pos h0,if_pos h0];have e0:Lib.decDigits 0=[48]:=by rw[Lib.decDigits];rfl
  have e1:Lib.itoa 0=[48]:=by unfold Lib.itoa;rw[if_neg (by omega),show(0:Int).toNat=0 from rfl,e0]
  rw[e0,e1];rfl
 ·rw[if_neg h0,if_neg h0,if_neg h0];rfl
theorem itoa_neg' (k:Nat) (h:1≤k):Lib.itoa (-(k:Int))=45::Lib.decDigits k:=by
 unfold Lib.itoa;rw[if_pos (by omega)];congr 2;omega
theorem itoa_pos' (k:Nat):Lib.itoa (k:Int)=Lib.decDigits k:=by
 unfold Lib.itoa;rw[if_neg (by omega)];rfl
theorem join_neg (p a c:List UInt8):Value.string ((({ data:=p.toArray }++{ data:=a.toArray }++{ data:=#[112] }:ByteArray)++{ data:=#[45] })++{ data:=c.toArray })=.string ⟨(p++(a++112::45::c)).toArray⟩:=by
 congr 1
 apply ByteArray.ext
 simp
theorem rtext_fin (b:Nat) (hb:F64 b) (hf:Fl.rg b<9218868437227405312) (w:World) :
  Calls Tryz.prog 41 #[.float .f64 b] w fun e w'=>e=.returned (.string ⟨(textB b).toArray⟩)∧Below w.heap.size w w':=by
 have hn:Fl.isNaN b=false:=by unfold Fl.isNaN;simp;omega
 have h1:=rnan_any b;rw[hn]at h1;have H1:=zh h1;clear h1;have H2:=zh (rminus_any b hb);have H3:=zh (rparts3_any b hf);have hbr:=bits_run;have hi:(IntKind.u64.wrap ((b:Int)*2)==18437736874454810624)=false:=by rw[inf_bits];simp;omega
 have HT:=zh (textB_parts hf);obtain⟨b1,b2,b3⟩:=parts_bounds hf;clear hn hf;generalize partsN (Fl.rg b)=m at *;generalize partsE (Fl.rg b)=e at *;have H4:=zh (rdigits_any m (by omega));have l1:=dec_len m (by omega);by_cases he:e<0
 ·obtain⟨k,rfl⟩:∃ k:Nat,e = -(k:Int):=⟨(-e).toNat,by omega⟩;rw[itoa_neg' k (by omega)]at HT;have H5:=zh (rdigits_any k (by omega));have l2:=dec_len k (by omega);cases hg:Fl.ng b
  all_goals
   rw[hg]at H2 HT;go_in;go_wp2_with (first
    | (go_at_call 71;refine(H1.out _).mono ?_;rintro e w' ⟨rfl,rfl⟩)
    | (go_at_call 70;refine(H2.out _).mono ?_;rintro e w' ⟨rfl,rfl⟩)
    | (go_at_call 73;refine(H3.out _).mono ?_;rintro e w' ⟨rfl,rfl⟩))
   refine(H4.out _).mono ?_;rintro e w1 ⟨rfl,hw1⟩;go_wp2_with fail
   refine(H5.out _).mono ?_;rintro e w2 ⟨rfl,hw2⟩;go_wp2_with fail
   go_ret;exact⟨ret_val (by rw[HT.out];exact join_neg _ _ _),below_tr hw1 hw2⟩
 ·obtain⟨k,rfl⟩:∃ k:Nat,e=(k:Int):=⟨e.toNat,by omega⟩;rw[itoa_pos' k]at HT;have H5:=zh (rdigits_any k (by omega));have l2:=dec_len k (by omega);cases hg:Fl.ng b
  all_goals
   rw[hg]at H2 HT;go_in;go_wp2_with (first
    | (go_at_call 71;refine(H1.out _).mono ?_;rintro e w' ⟨rfl,rfl⟩)
    | (go_at_call 70;refine(H2.out _).mono ?_;rintro e w' ⟨rfl,rfl⟩)
    | (go_at_call 73;refine(H3.out _).mono ?_;rintro e w' ⟨rfl,rfl⟩))
   refine(H4.out _).mono ?_;rintro e w1 ⟨rfl,hw1⟩;go_wp2_with fail
   refine(H5.out _).mono ?_;rintro e w2 ⟨rfl,hw2⟩;go_wp2_with fail
   go_ret;exact⟨ret_val (by rw[HT.out];exact text_join _ _ _),below_tr hw1 hw2⟩
theorem rtext_inf (b:Nat) (hb:F64 b) (hf:Fl.rg b=9218868437227405312) (w:World) :
  Calls Tryz.prog 41 #[.float .f64 b] w fun e w'=>e=.returned (.string ⟨(textB b).toArray⟩)∧Below w.heap.size w w':=by
 have hn:Fl.isNaN b=false:=by unfold Fl.isNaN;rw[hf];rfl
 have h1:=rnan_any b;rw[hn]at h1;have H1:=zh h1;clear h1;have H2:=zh (rminus_any b hb);have hbr:=bits_run;have hi:(IntKind.u64.wrap ((b:Int)*2)==18437736874454810624)=true:=by rw[inf_bits,hf];rfl
 have HT:=zh (textB.eq_def b);rw[hn,if_pos hf]at HT;clear hn hf;cases hg:Fl.ng b
 all_goals
  rw[hg]at H2 HT;go_in;go_wp2_with (first
   | (go_at_call 71;refine(H1.out _).mono ?_;rintro e w' ⟨rfl,rfl⟩)
   | (go_at_call 70;refine(H2.out _).mono ?_;rintro e w' ⟨rfl,rfl⟩))
  go_ret;exact⟨ret_val (by rw[HT.out];rfl),Below.refl _ _⟩
theorem rtext_nan (b:Nat) (hb:F64 b) (hn:Fl.isNaN b=true) (w:World) :
  Calls Tryz.prog 41 #[.float .f64 b] w fun e w'=>e=.returned (.string ⟨(textB b).toArray⟩)∧Below w.heap.size w w':=by
 have h1:=rnan_any b;rw[hn]at h1;have H1:=zh h1;clear h1;have H2:=zh (rminus_any b hb);have HT:=zh (textB.eq_def b);rw[hn]at HT;clear hn;cases hg:Fl.ng b
 all_goals
  rw[hg]at H2;go_in;go_wp2_with (first
   | (go_at_call 71;refine(H1.out _).mono ?_;rintro e w' ⟨rfl,rfl⟩)
   | (go_at_call 70;refine(H2.out _).mono ?_;rintro e w' ⟨rfl,rfl⟩))
  go_ret;exact⟨ret_val (by rw[HT.out];rfl),Below.refl _ _⟩
theorem rtext_any (b:Nat) (hb:F64 b) (w:World) :
  Calls Tryz.prog 41 #[.float .f64 b] w fun e w'=>e=.returned (.string ⟨(textB b).toArray⟩)∧Below w.heap.size w w':=by
 by_cases hn:Fl.isNaN b=true
 ·exact rtext_nan b hb hn w
 ·have:=nan_lt (show Fl.isNaN b=false by simpa using hn);by_cases hi:Fl.rg b=9218868437227405312
  ·exact rtext_inf b hb hi w
  ·exact rtext_fin b hb (by omega) w
end
section
open Go.RowKit
/-- what a float's text begins with -/
theorem text_cons {f:Nat} (hf:F64 f):∃ c q,textB f=c::q:=by
 cases h:textB f with
 | nil =>
  have:=parse_text hf;rw[h]at this;have h2:(parseB []).2=0:=by rw[this]
  have h3:(parseB []).2=5:=rfl;rw[h3]at h2;exact absurd h2 (by decide)
 | cons c q=>exact⟨c,q,rfl⟩
theorem ord_pos {f:Nat}:decide (0≤ordB f 0)=(Fl.isNaN f||!Fl.ng f):=by
 have h0:keyB 0=0:=by decide
 unfold ordB;rw[h0];unfold keyB;cases hn:Fl.isNaN f
 ·cases hg:Fl.ng f
  ·simp;split<;>(try split)<;>omega
  ·simp;omega
 ·simp
theorem flt_pos {f:Nat}:(Fl.isNaN f||((textB f).getD 0 0 != 45))=decide (0≤ordB f 0):=by
 rw[ord_pos];cases hn:Fl.isNaN f
 ·rw[Bool.false_or,Bool.false_or];cases hg:Fl.ng f
  ·have h0:0≤ordB f 0:=by
    have:=ord_pos (f:=f);rw[hn,hg]at this;simpa using this
   obtain⟨c,q,hc,hd⟩:=text_head h0;rw[hc];have:=(nlet_head hd).2.2;simpa using this
  ·have:(textB f).getD 0 0=45:=by
    unfold textB;rw[hn,hg];rfl
   rw[this];rfl
 ·rfl
theorem rwants_any (k:Int) (w:World):Calls Tryz.prog 55 #[.int .i64 k] w fun e w'=>e=.returned (.int .i64 (wantsE k))∧w=w':=by
 have step:∀ (P:Prop) (_:P→Calls Tryz.prog 55 #[.int .i64 k] w fun e w'=>e=.returned (.int .i64 (wantsE k))∧w=w'),P→Calls Tryz.prog 55 #[.int .i64 k] w fun e w'=>e=.returned (.int .i64 (wantsE k))∧w=w':=fun _ f h=>f h
 by_cases c:1≤k∧k≤23
 ·have hk:k=1∨k=2∨k=3∨k=4∨k=5∨k=6∨k=7∨k=8∨k=9∨k=10∨k=11∨k=12∨k=13∨k=14∨k=15∨k=16∨k=17∨k=18∨k=19∨k=20∨k=21∨k=22∨k=23:=by omega
  clear c step;rcases hk with rfl|rfl|rfl|rfl|rfl|rfl|rfl|rfl|rfl|rfl|rfl|rfl|rfl|rfl|rfl|rfl|rfl|rfl|rfl|rfl|rfl|rfl|rfl;all_goals
   go_in;go_wp2_with fail
   go_ret;exact⟨rfl,rfl⟩
 ·have hw:wantsE k = -2:=by
   unfold wantsE;rw[if_neg (by omega),if_neg (by omega),if_neg (by omega),if_neg (by omega),if_neg (by omega)]
  have HW:=zh hw;clear hw step;have t1:(k==1)=false:=beq_eq_false_iff_ne.2 (by omega);have t2:(k==2)=false:=beq_eq_false_iff_ne.2 (by omega);have t3:(k==3)=false:=beq_eq_false_iff_ne.2 (by omega);have t4:(k==4)=false:=beq_eq_false_iff_ne.2 (by omega);have t15:(k==15)=false:=beq_eq_false_iff_ne.2 (by omega);have t16:(k==16)=false:=beq_eq_false_iff_ne.2 (by omega);have t17:(k==17)=false:=beq_eq_false_iff_ne.2 (by omega);have t18:(k==18)=false:=beq_eq_false_iff_ne.2 (by omega);have t19:(k==19)=false:=beq_eq_false_iff_ne.2 (by omega);by_cases c2:k<1
  ·have a1:decide ((20:Int)≤k)=false:=by simp;omega
   have a2:decide ((5:Int)≤k)=false:=by simp;omega
   clear c c2;go_in;go_wp2_with fail
   go_ret;exact⟨ret_val (by rw[HW.out]<;>rfl),rfl⟩
  ·have a1:decide ((20:Int)≤k)=true:=by simp;omega
   have a2:decide ((5:Int)≤k)=true:=by simp;omega
   have a3:decide (k≤23)=false:=by simp;omega
   have a4:decide (k≤14)=false:=by simp;omega
   clear c c2;go_in;go_wp2_with fail
   go_ret;exact⟨ret_val (by rw[HW.out]<;>rfl),rfl⟩
theorem rfield8_any (s:List UInt8) (w:World):Calls Tryz.prog 60 #[.string ⟨s.toArray⟩] w fun e w'=>e=.returned (.bool (fieldB s))∧w=w':=by
 have HN:=rname4_any ⟨s.toArray⟩ w;have HF:=fieldB.eq_1 s;have e1:(⟨s.toArray⟩:ByteArray).toList=s:=by rw[ByteArray.toList_eq]
 rw[show(⟨s.toArray⟩:ByteArray).data.toList=s from rfl]at HN;generalize nmB s=b0 at *;cases b0
 ·have HF:=zh HF;have HN:=zh HN;go_in;go_wp2_with fail
  refine(HN.out).mono ?_;rintro e w2 ⟨rfl,rfl⟩;go_wp2_with fail
  go_ret;exact⟨ret_val (by rw[HF.out];rfl),rfl⟩
 ·rw[Bool.true_and]at HF;have HN:=zh HN;have HF:=zh HF;clear e1;go_in;go_wp2_with fail
  refine(HN.out).mono ?_;rintro e w2 ⟨rfl,rfl⟩;go_wp2_with fail
  all_goals
   go_ret;exact⟨ret_val (by rw[HF.out];first|rfl|(simp[*])),rfl⟩
theorem rnone8_any (d:Nat) (v:VT) (cs:Array Value) (w:World) (h:ValAt w d v cs):Calls Tryz.prog 57 #[.agg cs] w (Gives (.bool (noneV v)) w):=by
 by_cases hk:v.kind=0
 ·rw[noneV_at hk];exact rnone_any d v cs hk w h
 ·rw[noneV_no hk];obtain⟨pp,pc,p,cap,rfl⟩:=h.sixS;have hB:Below w.heap.size w (w.alloc (.cells #[.int .i64 v.kind,.int .i64 v.num,.float .f64 v.flt,.string ⟨v.str.toArray⟩,.slice pp v.names.length pc,.slice p v.items.length cap] 26)):=(Below.refl _ _).alloc (Nat.le_refl _) _;have hnew:(w.alloc (.cells #[.int .i64 v.kind,.int .i64 v.num,.float .f64 v.flt,.string ⟨v.str.toArray⟩,.slice pp v.names.length pc,.slice p v.items.length cap] 26)).heap[w.heap.size]?=some (.cells #[.int .i64 v.kind,.int .i64 v.num,.float .f64 v.flt,.string ⟨v.str.toArray⟩,.slice pp v.names.length pc,.slice p v.items.length cap] 26 (0,0)):=heap_alloc_new w _;have e1:(v.kind==0)=false:=beq_eq_false_iff_ne.2 hk;clear h hk;go_in;go_upto_region 1 with (fail)
  generalize w.alloc (.cells #[.int .i64 v.kind,.int .i64 v.num,.float .f64 v.flt,.string ⟨v.str.toArray⟩,.slice pp v.names.length pc,.slice p v.items.length cap] 26)=W1 at *;have nA:=hnew;obtain⟨c0,c1,c2,c3,c4,c5⟩:=cells6 nA;clear nA;go_wp2_with fail
  go_ret;exact⟨rfl,hB⟩
theorem rconst8_any (d:Nat) (v:VT) (cs:Array Value) (w:World) (h:ValAt w d v cs):Calls Tryz.prog 56 #[.agg cs] w (Gives (.bool (constB v)) w):=by
 have hf:F64 v.flt:=by cases d with|zero=>exact h.elim|succ d=>obtain⟨_,_,_,_,_,h4,_⟩:=h;exact h4
 obtain⟨pp,pc,p,cap,rfl⟩:=h.sixS;have hB:Below w.heap.size w (w.alloc (.cells #[.int .i64 v.kind,.int .i64 v.num,.float .f64 v.flt,.string ⟨v.str.toArray⟩,.slice pp v.names.length pc,.slice p v.items.length cap] 26)):=(Below.refl _ _).alloc (Nat.le_refl _) _;have hnew:(w.alloc (.cells #[.int .i64 v.kind,.int .i64 v.num,.float .f64 v.flt,.string ⟨v.str.toArray⟩,.slice pp v.names.length pc,.slice p v.items.length cap] 26)).heap[w.heap.size]?=some (.cells #[.int .i64 v.kind,.int .i64 v.num,.float .f64 v.flt,.string ⟨v.str.toArray⟩,.slice pp v.names.length pc,.slice p v.items.length cap] 26 (0,0)):=heap_alloc_new w _;have hR:=rRight_any d v _ _ (h.kept hB);have HC:=constB.eq_1 v;have HNa:=zh (fun w=>rnan_any v.flt w);have HTx:=zh (fun w=>rtext_any v.flt hf w);clear h;by_cases k14:v.kind=1∨v.kind=4
 ·rw[if_pos k14]at HC;have HC:=zh HC;have HR:=zh hR;clear hR;rcases k14 with k|k
  ·have e1:(v.kind==1)=true:=by rw[k];rfl
   clear k;go_in;go_upto_region 1 with (fail)
   generalize w.alloc (.cells #[.int .i64 v.kind,.int .i64 v.num,.float .f64 v.flt,.string ⟨v.str.toArray⟩,.slice pp v.names.length pc,.slice p v.items.length cap] 26)=W1 at *;have nA:=hnew;obtain⟨c0,c1,c2,c3,c4,c5⟩:=cells6 nA;clear nA;go_wp2_with fail
   refine(HR.out).mono ?_;rintro e w2 ⟨rfl,hb2⟩;go_wp2_with fail
   go_ret;exact⟨ret_val (by rw[HC.out]<;>rfl),hB.trans (hb2.mono hB.size)⟩
  ·have e1:(v.kind==1)=false:=by rw[k];rfl
   have e4:(v.kind==4)=true:=by rw[k];rfl
   clear k;go_in;go_upto_region 1 with (fail)
   generalize w.alloc (.cells #[.int .i64 v.kind,.int .i64 v.num,.float .f64 v.flt,.string ⟨v.str.toArray⟩,.slice pp v.names.length pc,.slice p v.items.length cap] 26)=W1 at *;have nA:=hnew;obtain⟨c0,c1,c2,c3,c4,c5⟩:=cells6 nA;clear nA;go_wp2_with fail
   refine(HR.out).mono ?_;rintro e w2 ⟨rfl,hb2⟩;go_wp2_with fail
   go_ret;exact⟨ret_val (by rw[HC.out]<;>rfl),hB.trans (hb2.mono hB.size)⟩
 ·rw[if_neg k14]at HC;have e1:(v.kind==1)=false:=beq_eq_false_iff_ne.2 (fun h=>k14 (.inl h));have e4:(v.kind==4)=false:=beq_eq_false_iff_ne.2 (fun h=>k14 (.inr h));clear k14;by_cases k2:v.kind=2
  ·rw[if_pos k2]at HC;have e2:(v.kind==2)=true:=by rw[k2];rfl
   clear k2;cases hb:rightB v
   ·rw[hb]at HC hR;have HC:=zh HC;have HR:=zh hR;clear hR hb;go_in;go_upto_region 1 with (fail)
    generalize w.alloc (.cells #[.int .i64 v.kind,.int .i64 v.num,.float .f64 v.flt,.string ⟨v.str.toArray⟩,.slice pp v.names.length pc,.slice p v.items.length cap] 26)=W1 at *;have nA:=hnew;obtain⟨c0,c1,c2,c3,c4,c5⟩:=cells6 nA;clear nA;go_wp2_with fail
    refine(HR.out).mono ?_;rintro e w2 ⟨rfl,hb2⟩;go_wp2_with fail
    go_ret;exact⟨ret_val (by rw[HC.out]<;>rfl),hB.trans (hb2.mono hB.size)⟩
   ·rw[hb,Bool.true_and]at HC;rw[hb]at hR;have HR:=zh hR;clear hR hb;by_cases hn:0≤v.num
    ·have t1:decide ((0:Int)≤v.num)=true:=by simp;omega
     rw[decide_eq_true hn]at HC;have HC:=zh HC;clear hn;go_in;go_upto_region 1 with (fail)
     generalize w.alloc (.cells #[.int .i64 v.kind,.int .i64 v.num,.float .f64 v.flt,.string ⟨v.str.toArray⟩,.slice pp v.names.length pc,.slice p v.items.length cap] 26)=W1 at *;have nA:=hnew;obtain⟨c0,c1,c2,c3,c4,c5⟩:=cells6 nA;clear nA;go_wp2_with fail
     refine(HR.out).mono ?_;rintro e w2 ⟨rfl,hb2⟩;have nA:=(hb2.block w.heap.size (lt_of_block hnew)).trans hnew;obtain⟨d0,d1,d2,d3,d4,d5⟩:=cells6 nA;clear nA;go_wp2_with fail
     go_ret;exact⟨ret_val (by rw[HC.out]<;>rfl),hB.trans (hb2.mono hB.size)⟩
    ·have t1:decide ((0:Int)≤v.num)=false:=by simp;omega
     rw[decide_eq_false hn]at HC;have HC:=zh HC;clear hn;go_in;go_upto_region 1 with (fail)
     generalize w.alloc (.cells #[.int .i64 v.kind,.int .i64 v.num,.float .f64 v.flt,.string ⟨v.str.toArray⟩,.slice pp v.names.length pc,.slice p v.items.length cap] 26)=W1 at *;have nA:=hnew;obtain⟨c0,c1,c2,c3,c4,c5⟩:=cells6 nA;clear nA;go_wp2_with fail
     refine(HR.out).mono ?_;rintro e w2 ⟨rfl,hb2⟩;have nA:=(hb2.block w.heap.size (lt_of_block hnew)).trans hnew;obtain⟨d0,d1,d2,d3,d4,d5⟩:=cells6 nA;clear nA;go_wp2_with fail
     go_ret;exact⟨ret_val (by rw[HC.out]<;>rfl),hB.trans (hb2.mono hB.size)⟩
  ·rw[if_neg k2]at HC;have e2:(v.kind==2)=false:=beq_eq_false_iff_ne.2 k2;clear k2;by_cases k3:v.kind=3
   ·rw[if_pos k3]at HC;have e3:(v.kind==3)=true:=by rw[k3];rfl
    clear k3;cases hb:rightB v
    ·rw[hb]at HC hR;have HC:=zh HC;have HR:=zh hR;clear hR hb;go_in;go_upto_region 1 with (fail)
     generalize w.alloc (.cells #[.int .i64 v.kind,.int .i64 v.num,.float .f64 v.flt,.string ⟨v.str.toArray⟩,.slice pp v.names.length pc,.slice p v.items.length cap] 26)=W1 at *;have nA:=hnew;obtain⟨c0,c1,c2,c3,c4,c5⟩:=cells6 nA;clear nA;go_wp2_with fail
     refine(HR.out).mono ?_;rintro e w2 ⟨rfl,hb2⟩;go_wp2_with fail
     go_ret;exact⟨ret_val (by rw[HC.out]<;>rfl),hB.trans (hb2.mono hB.size)⟩
    ·rw[hb,Bool.true_and,←flt_pos]at HC;rw[hb]at hR;have HR:=zh hR;clear hR hb;cases hn:Fl.isNaN v.flt
     ·rw[hn,Bool.false_or]at HC;have HN2:=zh (show ∀ w,Calls _ _ _ w _ from fun w=>by have:=HNa.out w;rw[hn]at this;exact this);obtain⟨c,q,htx⟩:=text_cons hf;have HT2:=zh (show ∀ w,Calls _ _ _ w _ from fun w=>by have:=HTx.out w;rw[htx]at this;exact this);rw[htx]at HC;have hs0:0<(⟨(c::q).toArray⟩:ByteArray).size:=Nat.succ_pos _;have hs1:(⟨(c::q).toArray⟩:ByteArray)[0]'hs0=c:=rfl;have hs1':((⟨(c::q).toArray⟩:ByteArray)[0]'hs0).toNat=c.toNat:=rfl;have HS1:=zh hs1';rw[show(c::q).getD 0 0=c from rfl]at HC;clear hn htx hs1 hs1';generalize (⟨(c::q).toArray⟩:ByteArray)=S at *;have hs2:(0:Int)<(S.size:Int):=by omega
      by_cases h45:c=45
      ·have t1:(((S[0]'hs0).toNat:Int) != 45)=false:=by rw[HS1.out,h45];rfl
       rw[h45,show((45:UInt8) != 45)=false from rfl]at HC;have HC:=zh HC;clear h45;go_in;go_upto_region 1 with (fail)
       generalize w.alloc (.cells #[.int .i64 v.kind,.int .i64 v.num,.float .f64 v.flt,.string ⟨v.str.toArray⟩,.slice pp v.names.length pc,.slice p v.items.length cap] 26)=W1 at *;have nA:=hnew;obtain⟨c0,c1,c2,c3,c4,c5⟩:=cells6 nA;clear nA;go_wp2_with fail
       refine(HR.out).mono ?_;rintro e w2 ⟨rfl,hb2⟩;have nA:=(hb2.block w.heap.size (lt_of_block hnew)).trans hnew;obtain⟨d0,d1,d2,d3,d4,d5⟩:=cells6 nA;clear nA;go_wp2_with fail
       refine(HN2.out _).mono ?_;rintro e w3 ⟨rfl,rfl⟩;go_wp2_with fail
       refine(HT2.out _).mono ?_;rintro e w4 ⟨rfl,hb4⟩;go_wp2_with fail
       go_ret;exact⟨ret_val (by rw[HC.out]<;>rfl),hB.trans ((below_tr' hb2 hb4).mono hB.size)⟩
      ·have t1:(((S[0]'hs0).toNat:Int) != 45)=true:=by
        rw[HS1.out,bne_iff_ne];intro h;exact h45 (UInt8.toNat_inj.1 (by show c.toNat=45;omega))
       rw[show(c != 45)=true from bne_iff_ne.2 h45]at HC;have HC:=zh HC;clear h45;go_in;go_upto_region 1 with (fail)
       generalize w.alloc (.cells #[.int .i64 v.kind,.int .i64 v.num,.float .f64 v.flt,.string ⟨v.str.toArray⟩,.slice pp v.names.length pc,.slice p v.items.length cap] 26)=W1 at *;have nA:=hnew;obtain⟨c0,c1,c2,c3,c4,c5⟩:=cells6 nA;clear nA;go_wp2_with fail
       refine(HR.out).mono ?_;rintro e w2 ⟨rfl,hb2⟩;have nA:=(hb2.block w.heap.size (lt_of_block hnew)).trans hnew;obtain⟨d0,d1,d2,d3,d4,d5⟩:=cells6 nA;clear nA;go_wp2_with fail
       refine(HN2.out _).mono ?_;rintro e w3 ⟨rfl,rfl⟩;go_wp2_with fail
       refine(HT2.out _).mono ?_;rintro e w4 ⟨rfl,hb4⟩;go_wp2_with fail
       go_ret;exact⟨ret_val (by rw[HC.out]<;>rfl),hB.trans ((below_tr' hb2 hb4).mono hB.size)⟩
     ·rw[hn,Bool.true_or]at HC;have HN2:=zh (show ∀ w,Calls _ _ _ w _ from fun w=>by have:=HNa.out w;rw[hn]at this;exact this);have HC:=zh HC;clear hn;go_in;go_upto_region 1 with (fail)
      generalize w.alloc (.cells #[.int .i64 v.kind,.int .i64 v.num,.float .f64 v.flt,.string ⟨v.str.toArray⟩,.slice pp v.names.length pc,.slice p v.items.length cap] 26)=W1 at *;have nA:=hnew;obtain⟨c0,c1,c2,c3,c4,c5⟩:=cells6 nA;clear nA;go_wp2_with fail
      refine(HR.out).mono ?_;rintro e w2 ⟨rfl,hb2⟩;have nA:=(hb2.block w.heap.size (lt_of_block hnew)).trans hnew;obtain⟨d0,d1,d2,d3,d4,d5⟩:=cells6 nA;clear nA;go_wp2_with fail
      refine(HN2.out _).mono ?_;rintro e w3 ⟨rfl,rfl⟩;go_wp2_with fail
      go_ret;exact⟨ret_val (by rw[HC.out]<;>rfl),hB.trans (hb2.mono hB.size)⟩
   ·rw[if_neg k3]at HC;have e3:(v.kind==3)=false:=beq_eq_false_iff_ne.2 k3;have HC:=zh HC;clear k3 hR;go_in;go_upto_region 1 with (fail)
    generalize w.alloc (.cells #[.int .i64 v.kind,.int .i64 v.num,.float .f64 v.flt,.string ⟨v.str.toArray⟩,.slice pp v.names.length pc,.slice p v.items.length cap] 26)=W1 at *;have nA:=hnew;obtain⟨c0,c1,c2,c3,c4,c5⟩:=cells6 nA;clear nA;go_wp2_with fail
    go_ret;exact⟨ret_val (by rw[HC.out]<;>rfl),hB⟩
end
section
open Go.RowKit
theorem below_drewN' {B:Nat} {a w:World} (h:Below B a w) (n:Nat):Below B a (w.drewN n):=h.trans ⟨rfl,rfl,rfl,Nat.le_refl _,fun _ _=>rfl⟩
/-- the text is what it must be -/
def sokB (k:Int) (s:List UInt8):Bool:=if k=2 then(!wordS s&&nmB s) else if k=18 then fieldB s else s.isEmpty
def nokB (k:Int) (ns:List (List UInt8)) (n:Nat):Bool:=if k=17 then rowE ns&&decide (ns.length=n) else ns.isEmpty
theorem named_eq (k:Int) (s:List UInt8) (ns:List (List UInt8)) (n:Nat):namedE k s ns n=(sokB k s&&nokB k ns n):=by
 unfold namedE sokB nokB;by_cases h2:k=2
 ·rw[if_pos h2,if_pos h2,if_neg (by omega)]
 ·rw[if_neg h2,if_neg h2];by_cases h18:k=18
  ·rw[if_pos h18,if_pos h18,if_neg (by omega)]
  ·rw[if_neg h18,if_neg h18];by_cases h17:k=17
   ·rw[if_pos h17,if_pos h17,Bool.and_assoc]
   ·rw[if_neg h17,if_neg h17]
theorem blk9 {W:World} {c:Obj} {G:Nat} (hn:W.heap[G]?=some c):∀ w',Below W.heap.size W w'→w'.heap[G]?=some c:=fun _ hb=>(hb.block _ (lt_of_block hn)).trans hn
theorem up9 {w W:World} (hB:Below w.heap.size w W):∀ w',Below W.heap.size W w'→Below w.heap.size w w':=fun _ hb=>hB.trans (hb.mono hB.size)
theorem ns9 {w W:World} {np:Option Addr} {M:Nat} {f:Nat→Value} (hB:Below w.heap.size w W) (h:∀ i,i<M→∃ g off,np=some ⟨g,off,none⟩∧g<w.heap.size∧∀ j,j<M→w.cell? ⟨g,off+j,none⟩=some (f j)) :
  ∀ i,i<M→∀ w',Below W.heap.size W w'→∃ g off,np=some ⟨g,off,none⟩∧∀ j,j<M→w'.cell? ⟨g,off+j,none⟩=some (f j):=fun i hi w' hb=>by
 obtain⟨g,off,e,hg,hc⟩:=h i hi;exact⟨g,off,e,fun j hj=>((hB.trans (hb.mono hB.size)).cell (p:=⟨g,off+j,none⟩) hg).trans (hc j hj)⟩
end
end Go.Proofs.YtaaaaggmhjhkkaaGreatDoor
