/-
  Fl, Fp, W1, W2, Fv, Fb, Ft, W3, W4, Bd in one text.
-/
import Derived.BigQuiet
import Derived.Handy
import Derived.Lib.Bytes
import Derived.Lib.FrozenHead2
import Derived.Lib.Hide
import Derived.Test.YtaaaaggmhjhkkaaGreatDoorChecked
import Derived.WalkLawsBesides
import Derived.WalkSpells
import Derived.Test.YtaaaaggmhjhkkaaGreatDoorCl
set_option maxRecDepth 100000
set_option maxHeartbeats 2000000
namespace Go.Proofs.YtaaaaggmhjhkkaaGreatDoor
section
namespace Fl
open Ieee
theorem sW:double.signWeight=9223372036854775808:=by decide
theorem bW:double.binade=4503599627370496:=by decide
theorem iR:double.infRung=9218868437227405312:=by decide
theorem lP:double.leastPlace = -1074:=by decide
theorem fB:double.fractionBits=52:=rfl
/-- the magnitude's two parts, of a rung -/
def mag (r:Nat):Nat:=if r<4503599627370496 then r else 4503599627370496+r % 4503599627370496
def plc (r:Nat):Nat:=if r<4503599627370496 then 0 else r / 4503599627370496 - 1
def ng (b:Nat):Bool:=b / 9223372036854775808 % 2==1
def rg (b:Nat):Nat:=b % 9223372036854775808
theorem read_fin {b:Nat} (h:rg b<9218868437227405312):double.read b=.number (ng b) (mag (rg b)) (-1074+(plc (rg b):Int)):=by
 unfold rg at h;unfold Format.read mag plc ng rg;simp only[sW,bW,iR,lP];split
 ·simp
 ·simp
theorem read_inf {b:Nat} (h:rg b=9218868437227405312):double.read b=.infinity (ng b):=by
 unfold rg at h;unfold Format.read ng;simp only[sW,bW,iR,lP,h];simp
theorem read_nan {b:Nat} (h:9218868437227405312<rg b):double.read b=.nan (ng b) (rg b - 9218868437227405312):=by
 unfold rg at h;unfold Format.read ng rg;simp only[sW,bW,iR,lP];rw[if_neg (by omega),if_neg (by omega),if_neg (by omega)]
theorem mag_lt (r:Nat):mag r<9007199254740992:=by unfold mag;split<;>omega
theorem plc_le {r:Nat} (h:r<9218868437227405312):plc r≤2045:=by unfold plc;split<;>omega
/-- the magnitude as a whole number of least units -/
def M (r:Nat):Nat:=mag r*2 ^ plc r
theorem mag_norm {r:Nat} (h:0<plc r):4503599627370496≤mag r:=by
 unfold plc at h;unfold mag;split at h
 ·omega
 ·rw[if_neg (by omega)];omega
theorem rung_eq (r:Nat):r=plc r*4503599627370496+mag r:=by
 unfold plc mag;split
 ·omega
 ·omega
theorem M_mono {r s:Nat} (h:r<s):M r<M s:=by
 unfold M;have e1:=rung_eq r;have e2:=rung_eq s;have m1:=mag_lt r;have m2:=mag_lt s;by_cases hp:plc r=plc s
 ·rw[hp];exact Nat.mul_lt_mul_of_pos_right (by omega) (Nat.two_pow_pos _)
 ·have hlt:plc r<plc s:=by
   by_cases g:0<plc r
   ·have:=mag_norm g;omega
   ·omega
  have hm:=mag_norm (show 0<plc s by omega);obtain⟨d,hd⟩:∃ d,plc s=plc r+1+d:=⟨plc s - plc r - 1,by omega⟩;rw[hd,Nat.pow_add,Nat.pow_succ];have hp:=Nat.two_pow_pos (plc r);have hd:=Nat.two_pow_pos d;calc mag r*2 ^ plc r<9007199254740992*2 ^ plc r:=Nat.mul_lt_mul_of_pos_right m1 hp
   _≤mag s*(2 ^ plc r*2):=by
    rw[Nat.mul_comm (2 ^ plc r) 2,←Nat.mul_assoc];exact Nat.mul_le_mul_right _ (by omega)
   _≤mag s*(2 ^ plc r*2*2 ^ d):=Nat.mul_le_mul_left _ (Nat.le_mul_of_pos_right _ hd)
theorem M_inj {r s:Nat} (h:M r=M s):r=s:=by
 rcases Nat.lt_trichotomy r s with g|g|g
 ·have:=M_mono g;omega
 ·exact g
 ·have:=M_mono g;omega
theorem M_lt_iff {r s:Nat}:M r<M s↔r<s:=by
 constructor
 ·intro h;rcases Nat.lt_trichotomy r s with g|g|g
  ·exact g
  ·subst g;omega
  ·have:=M_mono g;omega
 ·exact M_mono
theorem M_zero:M 0=0:=by decide
theorem cut0 (way:Toward) (s:Bool) (n:Nat):way.cut s n 0=n:=by
 unfold Toward.cut;have:1 <<< min 0 (n.log2+2)=1:=by simp
 simp only[this,Nat.div_one,Nat.mod_one];cases way<;>simp
theorem word_eq (s:Bool) (r:Nat):double.word s r=if s then 9223372036854775808+r else r:=by
 unfold Format.word;rw[sW]
theorem log2_lt53 {m:Nat} (h0:m≠0) (h:m<9007199254740992):m.log2≤52:=by
 have:m.log2<53:=(Nat.log2_lt h0).2 (by simpa using h);omega
/-- the nearest float of a number of at most 53 binary digits at a place that is not too low: exact, but for what is too great -/
theorem nearest_small {m:Nat} {p:Int} (s:Bool) (h0:m≠0) (h:m<9007199254740992) (hp : -1074≤p) :
  double.nearest s m p=double.word s (min ((max (p+m.log2 - 52) (-1074)+1074).toNat*4503599627370496+m*2 ^ (p - max (p+m.log2 - 52) (-1074)).toNat) 9218868437227405312):=by
 have hl:=log2_lt53 h0 h;unfold Format.nearest;rw[if_neg h0];simp only[lP,fB,bW,iR];have e1:(max (p+(m.log2:Int) - ((52:Nat):Int)) (-1074) - p).toNat=0:=by omega
 have e2:(max (p+(m.log2:Int) - ((52:Nat):Int)) (-1074) - -1074).toNat=(max (p+m.log2 - 52) (-1074)+1074).toNat:=by omega
 rw[e1,cut0,e2,Nat.shiftLeft_eq];rfl
/-- the normal parts of a number: its greatest place, and its magnitude there -/
def lastOf (m:Nat) (p:Int):Int:=max (p+m.log2 - 52) (-1074)
theorem pow_log {m:Nat} (h0:m≠0) (h:m<9007199254740992) (k:Nat) (hk:k≤52 - m.log2):m*2 ^ k<9007199254740992:=by
 have hl:=log2_lt53 h0 h;have h1:m<2 ^ (m.log2+1):=Nat.lt_log2_self;calc m*2 ^ k<2 ^ (m.log2+1)*2 ^ k:=Nat.mul_lt_mul_of_pos_right h1 (Nat.two_pow_pos _)
  _=2 ^ (m.log2+1+k):=by rw[←Nat.pow_add]
  _≤2 ^ 53:=Nat.pow_le_pow_right (by omega) (by omega)
theorem pow_log_ge {m:Nat} (h0:m≠0) (h:m<9007199254740992):4503599627370496≤m*2 ^ (52 - m.log2):=by
 have hl:=log2_lt53 h0 h;have h1:2 ^ m.log2≤m:=Nat.log2_self_le h0;calc 4503599627370496=2 ^ (m.log2+(52 - m.log2)):=by rw[show m.log2+(52 - m.log2)=52 from by omega]
  _=2 ^ m.log2*2 ^ (52 - m.log2):=Nat.pow_add ..
  _≤m*2 ^ (52 - m.log2):=Nat.mul_le_mul_right _ h1
/-- the rung of such a number -/
def rungOf (m:Nat) (p:Int):Nat:=(lastOf m p+1074).toNat*4503599627370496+m*2 ^ (p - lastOf m p).toNat
theorem rungOf_spec {m:Nat} {p:Int} (h0:m≠0) (h:m<9007199254740992) (_hp : -1074≤p) :
  mag (rungOf m p)=m*2 ^ (p - lastOf m p).toNat∧(plc (rungOf m p):Int)=lastOf m p+1074:=by
 have hl:=log2_lt53 h0 h;have hk:(p - lastOf m p).toNat≤52 - m.log2:=by unfold lastOf;omega
 have hlt:=pow_log h0 h _ hk;by_cases hc:lastOf m p = -1074
 ·have e:rungOf m p=m*2 ^ (p - lastOf m p).toNat:=by unfold rungOf;rw[hc];simp
  rw[e];generalize m*2 ^ (p - lastOf m p).toNat=x at *;unfold mag plc;constructor
  ·split<;>omega
  ·rw[hc];split<;>omega
 ·have hd:(p - lastOf m p).toNat=52 - m.log2:=by unfold lastOf at *;omega
  have hge:=pow_log_ge h0 h;rw[←hd]at hge;have hpos:0<lastOf m p+1074:=by unfold lastOf at *;omega
  unfold rungOf;generalize m*2 ^ (p - lastOf m p).toNat=x at *;generalize hq:(lastOf m p+1074).toNat=q at *;unfold mag plc;rw[if_neg (by omega),if_neg (by omega)];omega
theorem rungOf_fin {m:Nat} {p:Int} (h0:m≠0) (h:m<9007199254740992) (_hp : -1074≤p) (hq:p+m.log2≤1023):rungOf m p<9218868437227405312:=by
 have hl:=log2_lt53 h0 h;have hk:(p - lastOf m p).toNat≤52 - m.log2:=by unfold lastOf;omega
 have hlt:=pow_log h0 h _ hk;have:lastOf m p≤971:=by unfold lastOf;omega
 unfold rungOf;generalize m*2 ^ (p - lastOf m p).toNat=x at *;omega
/-- what is read of the nearest float of a number that a float is: the number -/
theorem nearest_fin {m:Nat} {p:Int} (s:Bool) (h0:m≠0) (h:m<9007199254740992) (hp : -1074≤p) (hq:p+m.log2≤1023) :
  double.nearest s m p=double.word s (rungOf m p):=by
 rw[nearest_small s h0 h hp];have:=rungOf_fin h0 h hp hq;unfold rungOf at *;unfold lastOf at *;rw[Nat.min_eq_left (by omega)]
theorem nearest_zero (s:Bool) (p:Int):double.nearest s 0 p=double.word s 0:=by
 unfold Format.nearest;simp
theorem word_of {b:Nat} (h:b<18446744073709551616):double.word (ng b) (rg b)=b:=by
 rw[word_eq];unfold ng rg;by_cases g:b / 9223372036854775808 % 2=1
 ·simp[g];omega
 ·simp[g];omega
theorem word_lt (s:Bool) {r:Nat} (h:r<9223372036854775808):double.word s r<18446744073709551616:=by
 rw[word_eq];cases s<;>simp<;>omega
/-- a finite float's parts, rounded: the float -/
theorem rungOf_self {r:Nat} (_h:r<9218868437227405312) (h0:r≠0):rungOf (mag r) (-1074+(plc r:Int))=r:=by
 have e:=rung_eq r;have ml:=mag_lt r;have m0:mag r≠0:=by
  intro hm;by_cases g:0<plc r
  ·have:=mag_norm g;omega
  ·omega
 have hl:=log2_lt53 m0 ml;by_cases g:0<plc r
 ·have hn:=mag_norm g;have hlg:(mag r).log2=52:=by
   have:52≤(mag r).log2:=(Nat.le_log2 m0).2 (by simpa using hn);omega
  unfold rungOf lastOf;rw[hlg];have:max (-1074+(plc r:Int)+(52:Nat) - 52) (-1074) = -1074+(plc r:Int):=by omega
  rw[this];have e1:(-1074+(plc r:Int)+1074).toNat=plc r:=by omega
  have e2:(-1074+(plc r:Int) - (-1074+(plc r:Int))).toNat=0:=by omega
  rw[e1,e2];omega
 ·have g0:plc r=0:=by omega
  unfold rungOf lastOf;rw[g0];have:max (-1074+((0:Nat):Int)+((mag r).log2:Int) - 52) (-1074) = -1074:=by omega
  rw[this];simp;omega
/-- the place of a float in the row of numbers; the two zeros have one -/
def K (b:Nat):Int:=if ng b then -(rg b:Int) else rg b
def isNaN (b:Nat):Bool:=decide (9218868437227405312<rg b)
theorem cmp_int (x y:Int):compare x y=if x<y then .lt else if x=y then .eq else .gt:=rfl
theorem signed_eq (s:Bool) (m u:Nat):signed s m u=if s then -((m*2 ^ u:Nat):Int) else((m*2 ^ u:Nat):Int):=by
 unfold signed;simp[Nat.shiftLeft_eq]
theorem signed_lt_iff (s t:Bool) (m n u v c:Nat) :
  (signed s m u<signed t n v↔signed s m (u+c)<signed t n (v+c))∧(signed s m u=signed t n v↔signed s m (u+c)=signed t n (v+c)):=by
 have hc:(0:Int)<((2 ^ c:Nat):Int):=by have:=Nat.two_pow_pos c;omega
 have e:∀ (s:Bool) (m u:Nat),signed s m (u+c)=signed s m u*((2 ^ c:Nat):Int):=by
  intro s m u;rw[signed_eq,signed_eq];have:m*2 ^ (u+c)=m*2 ^ u*2 ^ c:=by rw[Nat.pow_add,Nat.mul_assoc]
  rw[this,Int.natCast_mul (m*2 ^ u)];split
  ·rw[Int.neg_mul]
  ·rfl
 rw[e,e];constructor
 ·constructor
  ·intro h;exact Int.mul_lt_mul_of_pos_right h hc
  ·intro h;exact Int.lt_of_mul_lt_mul_right h (Int.le_of_lt hc)
 ·constructor
  ·intro h;rw[h]
  ·intro h;exact Int.eq_of_mul_eq_mul_right (by omega) h
/-- the value of a finite float in least units -/
def V (b:Nat):Int:=signed (ng b) (mag (rg b)) (plc (rg b))
theorem V_eq (b:Nat):V b=if ng b then -(M (rg b):Int) else(M (rg b):Int):=by
 unfold V;rw[signed_eq];rfl
theorem V_lt_iff (a b:Nat):V a<V b↔K a<K b:=by
 rw[V_eq,V_eq];unfold K;have h1:=@M_lt_iff (rg a) (rg b);have h2:=@M_lt_iff (rg b) (rg a);have z1:=@M_lt_iff 0 (rg a);have z2:=@M_lt_iff 0 (rg b);rw[M_zero]at z1 z2;split<;>split<;>omega
theorem V_eq_iff (a b:Nat):V a=V b↔K a=K b:=by
 have h1:=V_lt_iff a b;have h2:=V_lt_iff b a;omega
theorem order_num {a b:Nat} (ha:rg a<9218868437227405312) (hb:rg b<9218868437227405312) :
  double.order a b=some (compare (K a) (K b)):=by
 unfold Format.order;rw[read_fin ha,read_fin hb];unfold Datum.order;simp only;congr 1
 generalize hi:(-1074+(plc (rg a):Int))=i;generalize hj:(-1074+(plc (rg b):Int))=j;have s1:=signed_lt_iff (ng a) (ng b) (mag (rg a)) (mag (rg b)) (i - min i j).toNat (j - min i j).toNat (min i j+1074).toNat;rw[show(i - min i j).toNat+(min i j+1074).toNat=plc (rg a) from by omega,show(j - min i j).toNat+(min i j+1074).toNat=plc (rg b) from by omega]at s1;have v1:=V_lt_iff a b;have v2:=V_eq_iff a b;unfold V at v1 v2;rw[cmp_int,cmp_int];by_cases g1:K a<K b
 ·rw[if_pos (s1.1.2 (v1.2 g1)),if_pos g1]
 ·rw[if_neg (fun h=>g1 (v1.1 (s1.1.1 h))),if_neg g1];by_cases g2:K a=K b
  ·rw[if_pos (s1.2.2 (v2.2 g2)),if_pos g2]
  ·rw[if_neg (fun h=>g2 (v2.1 (s1.2.1 h))),if_neg g2]
theorem order_some {a b:Nat} (ha:isNaN a=false) (hb:isNaN b=false):double.order a b=some (compare (K a) (K b)):=by
 unfold isNaN at ha hb;simp only[decide_eq_false_iff_not,Nat.not_lt]at ha hb;by_cases h1:rg a<9218868437227405312
 ·by_cases h2:rg b<9218868437227405312
  ·exact order_num h1 h2
  ·unfold Format.order;rw[read_fin h1,read_inf (show rg b=_ by omega)];unfold Datum.order;simp only;congr 1;rw[cmp_int];unfold K;cases hng:ng b<;>simp only[Bool.false_eq_true,if_false,if_true]
   ·rw[if_pos (by split<;>omega)]
   ·rw[if_neg (by split<;>omega),if_neg (by split<;>omega)]
 ·by_cases h2:rg b<9218868437227405312
  ·unfold Format.order;rw[read_fin h2,read_inf (show rg a=_ by omega)];unfold Datum.order;simp only;congr 1;rw[cmp_int];unfold K;cases hng:ng a<;>simp only[Bool.false_eq_true,if_false,if_true]
   ·rw[if_neg (by split<;>omega),if_neg (by split<;>omega)]
   ·rw[if_pos (by split<;>omega)]
  ·unfold Format.order;rw[read_inf (show rg a=_ by omega),read_inf (show rg b=_ by omega)];unfold Datum.order;simp only;congr 1;rw[cmp_int];unfold K;rw[show rg a=9218868437227405312 from by omega,show rg b=9218868437227405312 from by omega];cases ng a<;>cases ng b<;>decide
theorem order_nan_left {a:Nat} (b:Nat) (h:isNaN a=true):double.order a b=none:=by
 unfold isNaN at h;simp only[decide_eq_true_eq]at h;unfold Format.order;rw[read_nan h];unfold Datum.order;cases double.read b<;>rfl
theorem order_nan_right (a:Nat) {b:Nat} (h:isNaN b=true):double.order a b=none:=by
 unfold isNaN at h;simp only[decide_eq_true_eq]at h;unfold Format.order;rw[read_nan h];unfold Datum.order;cases double.read a<;>rfl
/-- Go's comparisons, as plain ones -/
def feq (a b:Nat):Bool:=!isNaN a&&!isNaN b&&decide (K a=K b)
def flt (a b:Nat):Bool:=!isNaN a&&!isNaN b&&decide (K a<K b)
theorem order_eq (a b:Nat):(double.order a b==some .eq)=feq a b:=by
 unfold feq;cases ha:isNaN a
 ·cases hb:isNaN b
  ·rw[order_some ha hb,cmp_int];by_cases g:K a=K b
   ·simp[g]
   ·by_cases g1:K a<K b<;>simp[g,g1]
  ·simp[order_nan_right a hb]
 ·simp[order_nan_left b ha]
theorem order_lt (a b:Nat):(double.order a b==some .lt)=flt a b:=by
 unfold flt;cases ha:isNaN a
 ·cases hb:isNaN b
  ·rw[order_some ha hb,cmp_int];by_cases g1:K a<K b
   ·simp[g1]
   ·by_cases g:K a=K b<;>simp[g,g1]
  ·simp[order_nan_right a hb]
 ·simp[order_nan_left b ha]
theorem order_gt (a b:Nat):(double.order a b==some .gt)=flt b a:=by
 unfold flt;cases ha:isNaN a
 ·cases hb:isNaN b
  ·rw[order_some ha hb,cmp_int];by_cases g1:K a<K b
   ·have:¬ K b<K a:=by omega
    simp[g1,this]
   ·by_cases g:K a=K b
    ·simp[g]
    ·have:K b<K a:=by omega
     simp[g,g1,this]
  ·simp[order_nan_right a hb]
 ·simp[order_nan_left b ha]
end Fl
end
section
/-- a word of 64 bits -/
def F64 (b:Nat):Prop:=b<18446744073709551616
theorem F64.out {b:Nat} (h:F64 b):b<18446744073709551616:=h
def cnan:Nat:=9221120237041090560
def canon (b:Nat):Nat:=if Fl.isNaN b then cnan else b
def isZ (b:Nat):Bool:=decide (Fl.rg b=0)
def keyB (b:Nat):Int:=if Fl.isNaN b then 9223372036854775807 else if Fl.ng b then -1 - (Fl.rg b:Int) else Fl.rg b
def ordB (a b:Nat):Int:=if keyB a<keyB b then -1 else if keyB b<keyB a then 1 else 0
def rank1 (b:Nat):Int:=if Fl.isNaN b then 1 else 0
def rank2 (b:Nat):Int:=if Fl.isNaN b then 0 else if isZ b&&Fl.ng b then -1 else 0
theorem nan_lt {b:Nat} (h:Fl.isNaN b=false):Fl.rg b≤9218868437227405312:=by
 unfold Fl.isNaN at h;simpa using h
theorem ng_cases {b:Nat} (hb:F64 b):(Fl.ng b=true∧b=9223372036854775808+Fl.rg b)∨(Fl.ng b=false∧b=Fl.rg b):=by
 unfold F64 at hb;unfold Fl.ng Fl.rg;by_cases g:b / 9223372036854775808 % 2=1
 ·left;simp[g];omega
 ·right;simp[g];omega
theorem rg_lt (b:Nat):Fl.rg b<9223372036854775808:=Nat.mod_lt _ (by omega)
theorem keyB_le {b:Nat} (h:Fl.isNaN b=false):keyB b≤9218868437227405312 ∧ -9218868437227405313≤keyB b:=by
 have:=nan_lt h;unfold keyB;rw[h];simp only[Bool.false_eq_true,if_false];split<;>omega
theorem keyB_nan {b:Nat} (h:Fl.isNaN b=true):keyB b=9223372036854775807:=by unfold keyB;simp[h]
theorem bits_shl (b:Nat):IntKind.u64.wrap ((b:Int)*2)=2*(Fl.rg b:Int):=by
 unfold Fl.rg IntKind.wrap;simp[IntKind.bits,IntKind.signed];omega
theorem nan_bits (b:Nat):decide (18437736874454810624<IntKind.u64.wrap ((b:Int)*2))=Fl.isNaN b:=by
 rw[bits_shl];unfold Fl.isNaN;apply decide_eq_decide.2;omega
theorem inf_bits (b:Nat):(IntKind.u64.wrap ((b:Int)*2)==18437736874454810624)=decide (Fl.rg b=9218868437227405312):=by
 rw[bits_shl,Bool.eq_iff_iff];simp;omega
theorem ng_bits {b:Nat} (hb:F64 b):decide (9223372036854775808≤(b:Int))=Fl.ng b:=by
 have h1:=rg_lt b;rcases ng_cases hb with ⟨h,e⟩|⟨h,e⟩<;>rw[h]<;>simp<;>omega
/-- the program's order, by ranks and Go's comparisons, is the row's -/
def ordF (a b:Nat):Int :=
 if rank1 a≠rank1 b then rank1 a - rank1 b else if rank1 a=1 then 0
 else if Fl.flt a b||(Fl.feq a b&&decide (rank2 a<rank2 b)) then -1
 else if Fl.flt b a||(Fl.feq a b&&decide (rank2 b<rank2 a)) then 1 else 0
theorem ordF_eq (a b:Nat):ordF a b=ordB a b:=by
 unfold ordF rank1 rank2;cases ha:Fl.isNaN a
 ·cases hb:Fl.isNaN b
  ·have ka:=keyB_le ha;have kb:=keyB_le hb;unfold Fl.flt Fl.feq Fl.K ordB keyB isZ;simp only[ha,hb,Bool.not_false,Bool.true_and,Bool.false_eq_true,if_false,ne_eq,not_true,if_false];rw[if_neg (by omega)];cases Fl.ng a<;>cases Fl.ng b<;>simp only[Bool.false_eq_true,if_false,if_true,Bool.and_true,Bool.and_false,decide_eq_true_eq,Bool.or_eq_true,Bool.and_eq_true]<;>repeat' split
   all_goals omega
  ·have ka:=keyB_le ha;have kb:=keyB_nan hb;have e:ordB a b = -1:=by unfold ordB;rw[kb,if_pos (by omega)]
   rw[e];rfl
 ·cases hb:Fl.isNaN b
  ·have ka:=keyB_nan ha;have kb:=keyB_le hb;have e:ordB a b=1:=by unfold ordB;rw[ka,if_neg (by omega),if_pos (by omega)]
   rw[e];rfl
  ·have ka:=keyB_nan ha;have kb:=keyB_nan hb;unfold ordB;rw[ka,kb];simp
end
section
open Go.RowKit
theorem ord_eq (a b:Nat):(FloatKind.f64.format.order a b==some .eq)=Fl.feq a b:=Fl.order_eq a b
theorem ord_ne (a b:Nat):(FloatKind.f64.format.order a b != some .eq)=!Fl.feq a b:=by rw[←Fl.order_eq a b];rfl
theorem ord_lt (a b:Nat):(FloatKind.f64.format.order a b==some .lt)=Fl.flt a b:=Fl.order_lt a b
theorem ord_gt (a b:Nat):(FloatKind.f64.format.order a b==some .gt)=Fl.flt b a:=Fl.order_gt a b
theorem feq_self (a:Nat):Fl.feq a a=!Fl.isNaN a:=by unfold Fl.feq;simp
theorem ret_val {a b:Value} (h:a=b):Ending.returned a=.returned b:=by rw[h]
theorem bits_run (b:Nat) (w:World):(callFunc 72 #[.float .f64 b]).run Tryz.prog w=.ok (.value (.int .u64 b)) w :=
 run_callFunc_extern Tryz.func72 (by kernel_rfl) (by kernel_rfl) (by kernel_rfl) (e:=Extern.MathFloatBits.float64bits) (by kernel_rfl) _ w
theorem frombits_run (n:Int) (w:World):(callFunc 137 #[.int .u64 n]).run Tryz.prog w=.ok (.value (.float .f64 n.toNat)) w :=
 run_callFunc_extern Tryz.func137 (by kernel_rfl) (by kernel_rfl) (by kernel_rfl) (e:=Extern.MathFloatBits.float64frombits) (by kernel_rfl) _ w
theorem canon_any (b:Nat) (w:World):Calls Tryz.prog 139 #[.float .f64 b] w fun e w'=>e=.returned (.float .f64 (canon b))∧w=w':=by
 have h1:=ord_ne b b;rw[feq_self]at h1;have hf:=frombits_run;cases hn:Fl.isNaN b
 ·rw[hn]at h1;have hc:canon b=b:=by simp[canon,hn]
  have HC:=zh hc;clear hc;go_in;go_wp2
  go_ret;exact⟨ret_val (by rw[HC.out];rfl),rfl⟩
 ·rw[hn]at h1;have hc:canon b=cnan:=by simp[canon,hn]
  have HC:=zh hc;clear hc;go_in;go_wp2
  go_ret;exact⟨ret_val (by rw[HC.out];rfl),rfl⟩
theorem rnan_any (b:Nat) (w:World):Calls Tryz.prog 71 #[.float .f64 b] w fun e w'=>e=.returned (.bool (Fl.isNaN b))∧w=w':=by
 have hf:=bits_run;go_in;go_wp2
 go_ret;exact⟨ret_val (by rw[←nan_bits b];rfl),rfl⟩
theorem rminus_any (b:Nat) (hb:F64 b) (w:World):Calls Tryz.prog 70 #[.float .f64 b] w fun e w'=>e=.returned (.bool (Fl.ng b))∧w=w':=by
 have hf:=bits_run;go_in;go_wp2
 go_ret;exact⟨ret_val (by rw[←ng_bits hb];rfl),rfl⟩
theorem rcanon_any (b:Nat) (w:World):Calls Tryz.prog 111 #[.float .f64 b] w fun e w'=>e=.returned (.float .f64 (canon b))∧w=w':=by
 have hf:=frombits_run;cases hn:Fl.isNaN b
 ·have hc:canon b=b:=by simp[canon,hn]
  have HC:=zh hc;clear hc;go_in;go_wp2_with (go_at_call 71;refine(rnan_any _ _).mono ?_;rintro e w' ⟨rfl,rfl⟩)
  go_ret;exact⟨ret_val (by rw[HC.out];rfl),rfl⟩
 ·have hc:canon b=cnan:=by simp[canon,hn]
  have HC:=zh hc;clear hc;go_in;go_wp2_with (go_at_call 71;refine(rnan_any _ _).mono ?_;rintro e w' ⟨rfl,rfl⟩)
  go_ret;exact⟨ret_val (by rw[HC.out];rfl),rfl⟩
theorem rsame_any (a b:Nat) (w:World):Calls Tryz.prog 81 #[.float .f64 a,.float .f64 b] w fun e w'=>e=.returned (.bool (decide (canon a=canon b)))∧w=w':=by
 have hf:=bits_run;go_in;go_wp2_with (go_at_call 111;refine(rcanon_any _ _).mono ?_;rintro e w' ⟨rfl,rfl⟩)
 go_ret;exact⟨ret_val (by show Value.bool ((canon a:Int)==(canon b:Int))=_;congr 1;rw[Bool.eq_iff_iff];simp;omega),rfl⟩
end
section
open Go.RowKit
/-- the NaN that Go picks where an operation has no answer -/
def nanPick (w:World) (a b:Nat):Nat:=(Question.nanBits .f64 a b).cut (w.tape w.drawn (.nanBits .f64 a b))
theorem run_float_none {P:Program} (w:World) (op:BinOp) (t:TypeId) (x y:Nat) (hop:op=.add∨op=.sub∨op=.mul∨op=.quo) (h:floatBits op .f64 x y=none) :
  (binOp op t (.float .f64 x) (.float .f64 y)).run P w=.ok (.float .f64 (nanPick w x y)) w.drew:=by
 unfold floatBits at h;rcases hop with rfl|rfl|rfl|rfl<;>simp only at h<;>simp[binOp,Op.floatArith,h,nanPick,Question.forced]
theorem rank_any (b:Nat) (hb:F64 b) (w:World):Calls Tryz.prog 109 #[.float .f64 b] w fun e w'=>e=.returned (.tuple #[.int .i64 (rank1 b),.int .i64 (rank2 b)])∧w=w':=by
 have h1:=ord_ne b b;rw[feq_self]at h1;have hz:Fl.feq b 0=(!Fl.isNaN b&&isZ b):=by
  unfold Fl.feq Fl.K isZ;cases Fl.isNaN b<;>simp[show Fl.isNaN 0=false from by decide,show Fl.rg 0=0 from by decide,show Fl.ng 0=false from by decide]
  cases Fl.ng b<;>simp
 have h2:=ord_eq b 0;rw[hz]at h2;clear hz;cases hn:Fl.isNaN b
 ·rw[hn]at h1 h2;cases hz:isZ b
  ·rw[hz]at h2;have H1:=zh (show rank1 b=0 from by simp[rank1,hn]);have H2:=zh (show rank2 b=0 from by simp[rank2,hn,hz]);go_in;go_wp2
   go_ret2;exact⟨ret_val (by rw[H1.out,H2.out];rfl),rfl⟩
  ·have hr:Fl.rg b=0:=by simpa [isZ] using hz
   rcases ng_cases hb with ⟨h,he⟩|⟨h,he⟩
   ·rw[hr]at he;have H1:=zh (show rank1 b=0 from by simp[rank1,hn]);have H2:=zh (show rank2 b = -1 from by simp[rank2,hn,hz,h]);clear hn hz h hr h1 h2 hb;subst he;have hq:=fun w=>run_float_arith (P:=Tryz.prog) w .quo 22 .f64 4607182418800017408 9223372036854775808 18442240474082181120 (by kernel_rfl)
    have e1:FloatKind.f64.format.order 9223372036854775808 9223372036854775808=some .eq:=by kernel_rfl
    have e2:FloatKind.f64.format.order 9223372036854775808 0=some .eq:=by kernel_rfl
    have e3:FloatKind.f64.format.order 18442240474082181120 0=some .lt:=by kernel_rfl
    go_in;go_wp2
    go_ret2;exact⟨ret_val (by rw[H1.out,H2.out];rfl),rfl⟩
   ·rw[hr]at he;have H1:=zh (show rank1 b=0 from by simp[rank1,hn]);have H2:=zh (show rank2 b=0 from by simp[rank2,hn,hz,h]);clear hn hz h hr h1 h2 hb;subst he;have hq:=fun w=>run_float_arith (P:=Tryz.prog) w .quo 22 .f64 4607182418800017408 0 9218868437227405312 (by kernel_rfl)
    have e1:FloatKind.f64.format.order 0 0=some .eq:=by kernel_rfl
    have e3:FloatKind.f64.format.order 9218868437227405312 0=some .gt:=by kernel_rfl
    go_in;go_wp2
    go_ret2;exact⟨ret_val (by rw[H1.out,H2.out];rfl),rfl⟩
 ·rw[hn]at h1;have H1:=zh (show rank1 b=1 from by simp[rank1,hn]);have H2:=zh (show rank2 b=0 from by simp[rank2,hn]);go_in;go_wp2
  go_ret2;exact⟨ret_val (by rw[H1.out,H2.out];rfl),rfl⟩
def ordO (r1a r1b r2a r2b:Int) (o:Option Ordering):Int :=
 if r1a≠r1b then r1a - r1b else if r1a=1 then 0
 else if (o==some .lt)||((o==some .eq)&&decide (r2a<r2b)) then -1
 else if (o==some .gt)||((o==some .eq)&&decide (r2b<r2a)) then 1 else 0
theorem ordB_O (a b:Nat):ordB a b=ordO (rank1 a) (rank1 b) (rank2 a) (rank2 b) (FloatKind.f64.format.order a b):=by
 rw[←ordF_eq];unfold ordF ordO;have h3:Fl.feq a b=(FloatKind.f64.format.order a b==some .eq):=(ord_eq a b).symm;rw[ord_lt,ord_gt,←h3]
theorem rank1_or (b:Nat):rank1 b=0∨rank1 b=1:=by unfold rank1;split<;>simp
theorem rank2_or (b:Nat):rank2 b=0∨rank2 b = -1:=by unfold rank2;split<;>(try split)<;>simp
theorem order_any (a b:Nat) (ha:F64 a) (hb:F64 b) (w:World):Calls Tryz.prog 79 #[.float .f64 a,.float .f64 b] w fun e w'=>e=.returned (.int .i64 (ordB a b))∧w=w':=by
 have HK:=zh (ordB_O a b);rcases rank1_or a with ea|ea<;>rcases rank1_or b with eb|eb
 case inl.inl =>
  rcases rank2_or a with fa|fa<;>rcases rank2_or b with fb|fb<;>rcases ho:FloatKind.f64.format.order a b with _|o
  all_goals (try cases o)
  all_goals
   rw[ea,eb,fa,fb,ho]at HK;go_in;go_wp2_with fail
   refine(rank_any _ ha _).mono ?_;rintro e w' ⟨rfl,rfl⟩;go_wp2_with fail
   refine(rank_any _ hb _).mono ?_;rintro e w' ⟨rfl,rfl⟩;go_wp2_with fail
   go_ret;exact⟨ret_val (by rw[HK.out];rfl),rfl⟩
 all_goals
  have HV:Hid (ordB a b=rank1 a - rank1 b):=by unfold Hid;rw[HK.out,ea,eb];unfold ordO;split<;>simp_all
  rw[ea,eb]at HV;go_in;go_wp2_with fail
  refine(rank_any _ ha _).mono ?_;rintro e w' ⟨rfl,rfl⟩;go_wp2_with fail
  refine(rank_any _ hb _).mono ?_;rintro e w' ⟨rfl,rfl⟩;go_wp2_with fail
  go_ret;exact⟨ret_val (by rw[HV.out];rfl),rfl⟩
end
section
open Ieee
theorem log2_shift {m:Nat} (h0:m≠0) (k:Nat):(m*2 ^ k).log2=m.log2+k:=by
 have h1:2 ^ m.log2≤m:=Nat.log2_self_le h0;have h2:m<2 ^ (m.log2+1):=Nat.lt_log2_self;have hp:=Nat.two_pow_pos k;have n0:m*2 ^ k≠0:=Nat.mul_ne_zero h0 (by omega);apply Nat.le_antisymm
 ·have:(m*2 ^ k).log2<m.log2+k+1:=by
   rw[Nat.log2_lt n0,show m.log2+k+1=(m.log2+1)+k from by omega,Nat.pow_add];exact Nat.mul_lt_mul_of_pos_right h2 hp
  omega
 ·rw[Nat.le_log2 n0,Nat.pow_add];exact Nat.mul_le_mul_right _ h1
/-- of a number and its shift, cut so much further, the same is left -/
theorem cut_shift (s:Bool) (n d k:Nat) (h0:n≠0):Toward.even.cut s (n*2 ^ k) (d+k)=Toward.even.cut s n d:=by
 unfold Toward.cut;have hp:=Nat.two_pow_pos k;have e1:(1 <<< min (d+k) ((n*2 ^ k).log2+2))=(1 <<< min d (n.log2+2))*2 ^ k:=by
  rw[log2_shift h0,show min (d+k) (n.log2+k+2)=min d (n.log2+2)+k from by omega,Nat.shiftLeft_eq,Nat.shiftLeft_eq,Nat.one_mul,Nat.one_mul,Nat.pow_add]
 simp only[e1];generalize 1 <<< min d (n.log2+2)=g;rw[Nat.mul_div_mul_right _ _ hp,Nat.mul_mod_mul_right];have e2:(g*2 ^ k<2*(n % g*2 ^ k))=(g<2*(n % g)):=by
  apply propext;rw[←Nat.mul_assoc];exact Nat.mul_lt_mul_right hp
 have e3:(g*2 ^ k==2*(n % g*2 ^ k))=(g==2*(n % g)):=by
  rw[←Nat.mul_assoc,Bool.eq_iff_iff];simp only[beq_iff_eq];exact Nat.mul_left_inj (by omega)
 simp only[e2,e3]
theorem cut_exact (s:Bool) (n d:Nat) (h0:n≠0):Toward.even.cut s (n*2 ^ d) d=n:=by
 have:=cut_shift s n 0 d h0;rw[Nat.zero_add]at this;rw[this,Fl.cut0]
/-- the nearest float goes by the number alone -/
theorem nearest_shift (s:Bool) (m k:Nat) (p:Int):double.nearest s (m*2 ^ k) p=double.nearest s m (p+k):=by
 by_cases h0:m=0
 ·subst h0;rw[Nat.zero_mul,Fl.nearest_zero,Fl.nearest_zero]
 ·have n0:m*2 ^ k≠0:=Nat.mul_ne_zero h0 (by have:=Nat.two_pow_pos k;omega);unfold Format.nearest;rw[if_neg h0,if_neg n0,log2_shift h0];simp only[Fl.lP,Fl.fB,Fl.bW,Fl.iR];have e:max (p+((m.log2+k:Nat):Int) - ((52:Nat):Int)) (-1074)=max (p+(k:Int)+(m.log2:Int) - ((52:Nat):Int)) (-1074):=by omega
  rw[e];generalize max (p+(k:Int)+(m.log2:Int) - ((52:Nat):Int)) (-1074)=l;congr 2
  congr 1
  rw[Nat.shiftLeft_eq,Nat.shiftLeft_eq];by_cases c1:l≤p
  ·have f1:(l - p).toNat=0:=by omega
   have f2:(l - (p+k)).toNat=0:=by omega
   rw[f1,f2,Fl.cut0,Fl.cut0,show(p+(k:Int) - l).toNat=k+(p - l).toNat from by omega,Nat.pow_add,Nat.mul_assoc]
  ·by_cases c2:p+k≤l
   ·have f1:(l - p).toNat=(l - (p+k)).toNat+k:=by omega
    have f2:(p - l).toNat=0:=by omega
    have f3:(p+(k:Int) - l).toNat=0:=by omega
    rw[f1,f2,f3,Nat.pow_zero,Nat.mul_one,Nat.mul_one,cut_shift s m _ k h0]
   ·have f2:(p - l).toNat=0:=by omega
    have f3:(l - (p+k)).toNat=0:=by omega
    rw[f2,f3,Nat.pow_zero,Nat.mul_one,Fl.cut0];have hk:k=(p+(k:Int) - l).toNat+(l - p).toNat:=by omega
    have n1:m*2 ^ (p+(k:Int) - l).toNat≠0:=Nat.mul_ne_zero h0 (by have:=Nat.two_pow_pos (p+(k:Int) - l).toNat;omega);have hx:=cut_exact s (m*2 ^ (p+(k:Int) - l).toNat) (l - p).toNat n1;rw[Nat.mul_assoc,←Nat.pow_add,←hk]at hx;exact hx
end
section
theorem bits_andNot_u64_nat (a b:Nat) (ha:a<18446744073709551616) (hb:b<18446744073709551616) :
  bits .andNot .u64 (a:Int) (b:Int)=((a &&& (18446744073709551615 - b):Nat):Int):=by
 have hx:a &&& (18446744073709551615 - b)<2 ^ 64:=Nat.lt_of_le_of_lt Nat.and_le_left (by omega);have h1:(BitVec.ofInt 64 (a:Int)).toNat=a:=by
  rw[BitVec.ofInt_natCast,BitVec.toNat_ofNat];exact Nat.mod_eq_of_lt (by omega)
 have h2:(BitVec.ofInt 64 (b:Int)).toNat=b:=by
  rw[BitVec.ofInt_natCast,BitVec.toNat_ofNat];exact Nat.mod_eq_of_lt (by omega)
 show IntKind.u64.wrap ((BitVec.ofInt 64 (a:Int) &&& ~~~BitVec.ofInt 64 (b:Int)).toNat:Int)=_;rw[BitVec.toNat_and,BitVec.toNat_not,h1,h2,IntKind.wrap_u64];have:2 ^ 64 - 1 - b=18446744073709551615 - b:=by omega
 rw[this];omega
theorem abs_bits {b:Nat} (hb:F64 b):bits .andNot .u64 (b:Int) 9223372036854775808=((Fl.rg b:Nat):Int):=by
 have:=bits_andNot_u64_nat b 9223372036854775808 hb (by omega);rw[show((9223372036854775808:Nat):Int)=9223372036854775808 from rfl]at this;rw[this];congr 1
 exact Nat.and_two_pow_sub_one_eq_mod b 63
theorem field_and (x:Nat) (h:x<4096):bits .and .u64 (x:Int) 2047=((x % 2048:Nat):Int):=by
 have:=bits_and_u64_nat x 2047 (by omega) (by omega);rw[show((2047:Nat):Int)=2047 from rfl]at this;rw[this];congr 1
 exact Nat.and_two_pow_sub_one_eq_mod x 11
theorem field_and_i (x:Nat) (h:x<4096):bits .and .i64 (x:Int) 2047=((x % 2048:Nat):Int):=by
 have h1:(BitVec.ofInt 64 (x:Int)).toNat=x:=by
  rw[BitVec.ofInt_natCast,BitVec.toNat_ofNat];exact Nat.mod_eq_of_lt (by omega)
 have h2:(BitVec.ofInt 64 ((2047:Nat):Int)).toNat=2047:=by decide
 show IntKind.i64.wrap ((BitVec.ofInt 64 (x:Int) &&& BitVec.ofInt 64 ((2047:Nat):Int)).toNat:Int)=_;rw[BitVec.toNat_and,h1,h2,show x &&& 2047=x % 2048 from Nat.and_two_pow_sub_one_eq_mod x 11,IntWalk.i64_in _ (by omega)]
theorem frac_bits {r:Nat} (h:r<9223372036854775808):bits .andNot .u64 (r:Int) 9218868437227405312=((r % 4503599627370496:Nat):Int):=by
 have:=bits_andNot_u64_nat r 9218868437227405312 (by omega) (by omega);rw[show((9218868437227405312:Nat):Int)=9218868437227405312 from rfl]at this;rw[this];congr 1
 apply Nat.eq_of_testBit_eq
 intro i;rw[Nat.testBit_and,show(4503599627370496:Nat)=2 ^ 52 from rfl,Nat.testBit_mod_two_pow,show 18446744073709551615 - 9218868437227405312=2 ^ 63+(2 ^ 52 - 1) from by decide];rcases Nat.lt_trichotomy i 63 with g|g|g
 ·rw[Nat.testBit_two_pow_add_gt g,Nat.testBit_two_pow_sub_one,Bool.and_comm]
 ·subst g;rw[Nat.testBit_lt_two_pow (show r<2 ^ 63 from h)];simp
 ·rw[Nat.testBit_lt_two_pow (show r<2 ^ i from Nat.lt_of_lt_of_le (show r<2 ^ 63 from h) (Nat.pow_le_pow_right (by omega) (by omega)))];simp
theorem or_field {f c:Nat} (hf:f<4503599627370496) (hc:c<2048):bits .or .u64 (f:Int) (((c*4503599627370496:Nat)):Int)=((c*4503599627370496+f:Nat):Int):=by
 rw[bits_or_u64_nat f (c*4503599627370496) (by omega) (by omega)];congr 1
 have:=Nat.shiftLeft_add_eq_or_of_lt (i:=52) (b:=f) (by simpa using hf) c;rw[Nat.shiftLeft_eq]at this;rw[Nat.or_comm];exact this.symm
end
section
open Ieee
def nrm (r:Nat):Nat:=if r<4503599627370496 then Fl.rungOf r (-1022) else r
def nrmE (r:Nat):Int:=if r<4503599627370496 then -52 else 0
def frx (r:Nat):Nat:=1022*4503599627370496+nrm r % 4503599627370496
def frxE (r:Nat):Int:=nrmE r+((nrm r / 4503599627370496:Nat):Int) - 1022
/-- the whole number of 53 binary digits that a float is, at a place -/
def n53 (r:Nat):Nat:=4503599627370496+nrm r % 4503599627370496
theorem word_false (r:Nat):double.word false r=r:=by rw[Fl.word_eq];rfl
theorem rungOf_norm {n:Nat} {k:Int} (h0:n≠0) (h:n<9007199254740992) (hk : -1022≤k+n.log2) :
  Fl.rungOf n k=(k+n.log2+1022).toNat*4503599627370496+n*2 ^ (52 - n.log2)∧4503599627370496≤n*2 ^ (52 - n.log2)∧n*2 ^ (52 - n.log2)<9007199254740992:=by
 have hl:=Fl.log2_lt53 h0 h;refine⟨?_,Fl.pow_log_ge h0 h,Fl.pow_log h0 h _ (Nat.le_refl _)⟩;unfold Fl.rungOf Fl.lastOf;have e:max (k+(n.log2:Int) - 52) (-1074)=k+n.log2 - 52:=by omega
 rw[e,show(k+(n.log2:Int) - 52+1074).toNat=(k+n.log2+1022).toNat from by omega,show(k - (k+(n.log2:Int) - 52)).toNat=52 - n.log2 from by omega]
theorem nrm_sub {r:Nat} (h0:r≠0) (h:r<4503599627370496) :
  nrm r=r.log2*4503599627370496+r*2 ^ (52 - r.log2)∧4503599627370496≤r*2 ^ (52 - r.log2)∧r*2 ^ (52 - r.log2)<9007199254740992:=by
 have:=rungOf_norm (n:=r) (k := -1022) h0 (by omega) (by omega);unfold nrm;rw[if_pos h,this.1];refine⟨?_,this.2⟩;rw[show(-1022+(r.log2:Int)+1022).toNat=r.log2 from by omega]
theorem nrm_bounds {r:Nat} (h0:r≠0) (h:r<9218868437227405312):4503599627370496≤nrm r∧nrm r<9218868437227405312:=by
 by_cases g:r<4503599627370496
 ·have:=nrm_sub h0 g;have hl:=Fl.log2_lt53 h0 (show r<9007199254740992 by omega);omega
 ·unfold nrm;rw[if_neg g];omega
theorem frx_bounds (r:Nat):4602678819172646912≤frx r∧frx r<4607182418800017408:=by unfold frx;omega
/-- the number that is taken out, and where it stands: the float's own, so many places further down -/
theorem n53_eq {r:Nat} (h0:r≠0) (h:r<9218868437227405312) :
  ∃ j:Nat,n53 r=Fl.mag r*2 ^ j∧frxE r - 53=(Fl.plc r:Int) - 1074 - j:=by
 by_cases g:r<4503599627370496
 ·obtain⟨e,h1,h2⟩:=nrm_sub h0 g;have hl:r.log2<52:=(Nat.log2_lt h0).2 (by simpa using g);refine⟨52 - r.log2,?_,?_⟩
  ·unfold n53 Fl.mag;rw[e,if_pos g];generalize r*2 ^ (52 - r.log2)=x at *;omega
  ·unfold frxE nrmE Fl.plc;rw[e,if_pos g,if_pos g];generalize r*2 ^ (52 - r.log2)=x at *;omega
 ·refine⟨0,?_,?_⟩
  ·unfold n53 nrm Fl.mag;rw[if_neg g,if_neg g];omega
  ·unfold frxE nrmE nrm Fl.plc;rw[if_neg g,if_neg g,if_neg g];omega
/-- the odd part of a number, and how often it is even; with fuel -/
def oddF:Nat→Nat→Nat
 | 0,n=>n
 | f+1,n=>if n % 2=0 then oddF f (n / 2) else n
def tzF:Nat→Nat→Nat
 | 0,_=>0
 | f+1,n=>if n % 2=0 then tzF f (n / 2)+1 else 0
theorem oddF_of:∀ (f o k:Nat),o % 2=1→o*2 ^ k<2 ^ f→oddF f (o*2 ^ k)=o∧tzF f (o*2 ^ k)=k
 | 0,o,k,ho,h=>by
  have:=Nat.two_pow_pos k;have:0<o*2 ^ k:=Nat.mul_pos (by omega) this;omega
 | f+1,o,0,ho,h=>by simp[oddF,tzF,ho]
 | f+1,o,k+1,ho,h=>by
  have e:o*2 ^ (k+1)=o*2 ^ k*2:=by rw[Nat.pow_succ,Nat.mul_assoc]
  have e0:o*2 ^ (k+1) % 2=0:=by rw[e];omega
  have e1:o*2 ^ (k+1) / 2=o*2 ^ k:=by rw[e];omega
  have ih:=oddF_of f o k ho (by rw[e,Nat.pow_succ 2 f]at h;omega);rw[oddF,tzF,if_pos e0,if_pos e0,e1,ih.1,ih.2];exact⟨rfl,rfl⟩
def odd (n:Nat):Nat:=oddF 64 n
def tz (n:Nat):Nat:=tzF 64 n
theorem odd_of {n o k:Nat} (ho:o % 2=1) (hn:n=o*2 ^ k) (h:n<18446744073709551616):odd n=o∧tz n=k:=by
 subst hn;exact oddF_of 64 o k ho h
theorem exists_odd:∀ (f n:Nat),n≠0→n<2 ^ f→∃ o k,o % 2=1∧n=o*2 ^ k
 | 0,n,h0,h=>by omega
 | f+1,n,h0,h=>by
  by_cases g:n % 2=0
  ·obtain⟨o,k,ho,e⟩:=exists_odd f (n / 2) (by omega) (by rw[Nat.pow_succ]at h;omega);exact⟨o,k+1,ho,by rw[Nat.pow_succ,←Nat.mul_assoc,←e];omega⟩
  ·exact⟨n,0,by omega,by simp⟩
theorem odd_spec {n:Nat} (h0:n≠0) (h:n<18446744073709551616):odd n % 2=1∧n=odd n*2 ^ tz n:=by
 obtain⟨o,k,ho,e⟩:=exists_odd 64 n h0 h;have:=odd_of ho e h;rw[this.1,this.2];exact⟨ho,e⟩
theorem odd_shift {n j:Nat} (h0:n≠0) (h:n*2 ^ j<18446744073709551616):odd (n*2 ^ j)=odd n∧tz (n*2 ^ j)=tz n+j:=by
 have hn:n<18446744073709551616:=Nat.lt_of_le_of_lt (Nat.le_mul_of_pos_right _ (Nat.two_pow_pos j)) h;obtain⟨ho,e⟩:=odd_spec h0 hn;refine odd_of ho ?_ h;rw[Nat.pow_add,←Nat.mul_assoc,←e]
/-- a finite float's odd number and its place -/
def txtN (r:Nat):Nat:=odd (Fl.mag r)
def txtE (r:Nat):Int:=(tz (Fl.mag r):Int)+Fl.plc r - 1074
theorem mag_ne {r:Nat} (h0:r≠0):Fl.mag r≠0:=by
 have e:=Fl.rung_eq r;intro hm;by_cases g:0<Fl.plc r
 ·have:=Fl.mag_norm g;omega
 ·omega
theorem txt_n53 {r:Nat} (h0:r≠0) (h:r<9218868437227405312):odd (n53 r)=txtN r∧frxE r - 53+tz (n53 r)=txtE r:=by
 obtain⟨j,e1,e2⟩:=n53_eq h0 h;have hb:n53 r<18446744073709551616:=by unfold n53;omega
 rw[e1]at hb ⊢
 obtain⟨a,b⟩:=odd_shift (mag_ne h0) hb;unfold txtN txtE;exact⟨a,by rw[b];omega⟩
/-- a number of at most 53 binary digits at a place: is it a float? -/
def rep (n:Nat) (k:Int):Prop := -1074≤k∧k+n.log2≤1023
instance (n:Nat) (k:Int):Decidable (rep n k):=by unfold rep;infer_instance
theorem txt_bounds {r:Nat} (h0:r≠0) (h:r<9218868437227405312):txtN r % 2=1∧txtN r<9007199254740992∧rep (txtN r) (txtE r)∧txtN r*2 ^ tz (Fl.mag r)=Fl.mag r:=by
 have hm:=Fl.mag_lt r;have m0:=mag_ne h0;obtain⟨ho,e⟩:=odd_spec m0 (by omega);have hle:odd (Fl.mag r)≤Fl.mag r:=by
  have:odd (Fl.mag r)≤odd (Fl.mag r)*2 ^ tz (Fl.mag r):=Nat.le_mul_of_pos_right _ (Nat.two_pow_pos _);rw[←e]at this;exact this
 have hlog:(Fl.mag r).log2=(odd (Fl.mag r)).log2+tz (Fl.mag r):=by
  have:=log2_shift (m:=odd (Fl.mag r)) (by omega) (tz (Fl.mag r));rw[←e]at this;exact this
 have hp:=Fl.plc_le h;have h52:=Fl.log2_lt53 m0 hm;refine⟨ho,Nat.lt_of_le_of_lt hle hm,⟨?_,?_⟩,e.symm⟩
 ·unfold txtE;omega
 ·unfold txtN txtE;omega
theorem mul_one {b:Nat} (hb:F64 b) (h:Fl.rg b<9218868437227405312):double.mul 4607182418800017408 b=some b:=by
 unfold Format.mul;have e1:double.read 4607182418800017408=.number false 4503599627370496 (-52):=by decide
 rw[e1,Fl.read_fin h];simp only[Datum.product,Bool.false_xor,Option.map_some,Format.write];congr 1
 rw[Nat.mul_comm,show(4503599627370496:Nat)=2 ^ 52 from rfl,nearest_shift];by_cases h0:Fl.rg b=0
 ·rw[h0,show Fl.mag 0=0 from by decide,Fl.nearest_zero];have:=Fl.word_of hb;rw[h0]at this;exact this
 ·have hp:=Fl.plc_le h;have hl:=Fl.log2_lt53 (mag_ne h0) (Fl.mag_lt _);rw[show(-52:Int)+(-1074+(Fl.plc (Fl.rg b):Int))+(52:Nat) = -1074+(Fl.plc (Fl.rg b):Int) from by omega,
   Fl.nearest_fin _ (mag_ne h0) (Fl.mag_lt _) (by omega) (by omega),Fl.rungOf_self h h0,Fl.word_of hb]
/-- Ldexp of a normal float that is not below zero -/
def ldxE (r:Nat) (e:Int):Int:=e+((r / 4503599627370496:Nat):Int) - 1023
def ldxS (r:Nat) (e:Int):Nat:=(ldxE r e+53+1023).toNat*4503599627370496+r % 4503599627370496
def ldxB (r:Nat) (e:Int):Nat :=
 if ldxE r e < -1075 then 0 else if 1023<ldxE r e then 9218868437227405312
 else if ldxE r e < -1022 then double.nearest false (4503599627370496+r % 4503599627370496) (ldxE r e - 52)
 else(ldxE r e+1023).toNat*4503599627370496+r % 4503599627370496
theorem ldx_mul {r:Nat} {e:Int} (h1:¬ ldxE r e < -1075) (h2:ldxE r e < -1022) :
  double.mul 4368491638549381120 (ldxS r e)=some (double.nearest false (4503599627370496+r % 4503599627370496) (ldxE r e - 52)):=by
 unfold Format.mul;have e1:double.read 4368491638549381120=.number false 4503599627370496 (-105):=by decide
 generalize hE:ldxE r e=E at *;have hx:ldxS r e<9218868437227405312:=by unfold ldxS;rw[hE];omega
 have e2:Fl.rg (ldxS r e)=ldxS r e:=Nat.mod_eq_of_lt (by omega);have e3:Fl.ng (ldxS r e)=false:=by unfold Fl.ng;simp;omega
 have e4:Fl.mag (ldxS r e)=4503599627370496+r % 4503599627370496:=by unfold Fl.mag ldxS;rw[hE,if_neg (by omega)];omega
 have e5:(Fl.plc (ldxS r e):Int)=E+1075:=by unfold Fl.plc ldxS;rw[hE,if_neg (by omega)];omega
 rw[e1,Fl.read_fin (by rw[e2];exact hx),e2,e3,e4,e5];simp only[Datum.product,Bool.false_xor,Option.map_some,Format.write];rw[Nat.mul_comm,show(4503599627370496:Nat)=2 ^ 52 from rfl,nearest_shift];congr 2
 omega
theorem ldx_exact {n:Nat} {k:Int} (h0:n≠0) (h:n<9007199254740992) (hr:rep n k):ldxB (Fl.rungOf n 0) k=Fl.rungOf n k:=by
 obtain⟨hk,hk2⟩:=hr;have hl:=Fl.log2_lt53 h0 h;obtain⟨e0,g1,g2⟩:=rungOf_norm (n:=n) (k:=0) h0 h (by omega);generalize hN:n*2 ^ (52 - n.log2)=N at *;have q1:Fl.rungOf n 0 / 4503599627370496=n.log2+1023:=by rw[e0];omega
 have q2:Fl.rungOf n 0 % 4503599627370496=N - 4503599627370496:=by rw[e0];omega
 have hE:ldxE (Fl.rungOf n 0) k=k+n.log2:=by unfold ldxE;rw[q1];omega
 unfold ldxB;rw[hE,q2,if_neg (by omega),if_neg (by omega)];by_cases c:k+(n.log2:Int) < -1022
 ·rw[if_pos c,show 4503599627370496+(N - 4503599627370496)=n*2 ^ (52 - n.log2) from by omega,nearest_shift,
   show k+(n.log2:Int) - 52+((52 - n.log2:Nat):Int)=k from by omega,Fl.nearest_fin _ h0 h hk hk2,word_false]
 ·rw[if_neg c];obtain⟨e1,_,_⟩:=rungOf_norm (n:=n) (k:=k) h0 h (by omega);rw[e1,hN];omega
theorem ldx_top {f:Nat} (hf:f<4503599627370496):ldxB (1022*4503599627370496+f) 53=1075*4503599627370496+f:=by
 have q1:(1022*4503599627370496+f) / 4503599627370496=1022:=by omega
 have q2:(1022*4503599627370496+f) % 4503599627370496=f:=by omega
 have hE:ldxE (1022*4503599627370496+f) 53=52:=by unfold ldxE;rw[q1];rfl
 unfold ldxB;rw[hE,q2];rfl
end
section
open Go.RowKit
theorem abs_any (b:Nat) (hb:F64 b) (w:World):Calls Tryz.prog 131 #[.float .f64 b] w fun e w'=>e=.returned (.float .f64 (Fl.rg b))∧w=w':=by
 have hf:=bits_run;have hg:=frombits_run;have H:=zh (abs_bits hb);go_in;go_wp2
 go_ret;exact⟨ret_val (congrArg (fun n:Int=>Value.float .f64 n.toNat) H.out),rfl⟩
theorem sign_i64 {b:Nat} (hb:F64 b):decide (wrap64 (b:Int)<0)=Fl.ng b:=by
 have hl:=rg_lt b;unfold wrap64;rcases ng_cases hb with ⟨h,e⟩|⟨h,e⟩<;>rw[h]<;>simp<;>omega
theorem signbit_any (b:Nat) (hb:F64 b) (w:World):Calls Tryz.prog 129 #[.float .f64 b] w fun e w'=>e=.returned (.bool (Fl.ng b))∧w=w':=by
 have hf:=bits_run;have H:=zh (sign_i64 hb);go_in;go_wp2
 go_ret;exact⟨ret_val (congrArg Value.bool H.out),rfl⟩
theorem over_max {b:Nat}:Fl.flt 9218868437227405311 (Fl.rg b)=decide (Fl.rg b=9218868437227405312):=by
 have hl:=rg_lt b;have e0:Fl.rg (Fl.rg b)=Fl.rg b:=Nat.mod_eq_of_lt hl;have e1:Fl.ng (Fl.rg b)=false:=by unfold Fl.ng;simp;omega
 unfold Fl.flt Fl.K;rw[show Fl.isNaN 9218868437227405311=false from by decide,show Fl.ng 9218868437227405311=false from by decide,show Fl.rg 9218868437227405311=9218868437227405311 from by decide,e0,e1];unfold Fl.isNaN;rw[e0];simp only[Bool.not_false,Bool.true_and,Bool.false_eq_true,if_false];rw[Bool.eq_iff_iff];simp;omega
theorem isInf_any (b:Nat) (hb:F64 b) (w:World):Calls Tryz.prog 185 #[.float .f64 b,.int .i64 0] w fun e w'=>e=.returned (.bool (decide (Fl.rg b=9218868437227405312)))∧w=w':=by
 have H:=zh (over_max (b:=b));go_in;go_wp2_with (go_at_call 131;refine(abs_any _ hb _).mono ?_;rintro e w' ⟨rfl,rfl⟩)
 go_ret;exact⟨ret_val (by rw[←H.out,←ord_gt];rfl),rfl⟩
theorem isNaN_any (b:Nat) (w:World):Calls Tryz.prog 186 #[.float .f64 b] w fun e w'=>e=.returned (.bool (Fl.isNaN b))∧w=w':=by
 have h1:=ord_ne b b;rw[feq_self,Bool.not_not]at h1;have H:=zh h1;clear h1;go_in;go_wp2
 go_ret;exact⟨ret_val (by rw[←H.out];rfl),rfl⟩
theorem inf_pos (w:World):Calls Tryz.prog 141 #[.int .i64 1] w fun e w'=>e=.returned (.float .f64 9218868437227405312)∧w=w':=by
 have hg:=frombits_run;go_in;go_wp2
 go_ret;exact⟨ret_val rfl,rfl⟩
theorem inf_neg (w:World):Calls Tryz.prog 141 #[.int .i64 (-1)] w fun e w'=>e=.returned (.float .f64 18442240474082181120)∧w=w':=by
 have hg:=frombits_run;go_in;go_wp2
 go_ret;exact⟨ret_val rfl,rfl⟩
theorem mnan_any (w:World):Calls Tryz.prog 140 #[] w fun e w'=>e=.returned (.float .f64 9221120237041090561)∧w=w':=by
 have hg:=frombits_run;go_in;go_wp2
 go_ret;exact⟨ret_val rfl,rfl⟩
/-- the facts on a float that is above nought and finite, as the walk asks them -/
theorem pos_facts {r:Nat} (h0:r≠0) (h:r<9218868437227405312):F64 r∧Fl.rg r=r∧Fl.ng r=false∧Fl.isNaN r=false∧FloatKind.f64.format.order r 0=some .gt:=by
 have e0:Fl.rg r=r:=Nat.mod_eq_of_lt (by omega);have e1:Fl.ng r=false:=by unfold Fl.ng;simp;omega
 have e2:Fl.isNaN r=false:=by unfold Fl.isNaN;rw[e0];simp;omega
 refine⟨show r<_ by omega,e0,e1,e2,?_⟩;show Ieee.double.order r 0=_;rw[Fl.order_some e2 (by decide),Fl.cmp_int];have k:Fl.K r=r:=by unfold Fl.K;rw[e0,e1];rfl
 rw[k,show Fl.K 0=0 from by decide,if_neg (by omega),if_neg (by omega)]
theorem pos_order {r s:Nat} (hr:r<9218868437227405313) (hs:s<9218868437227405313):FloatKind.f64.format.order r s=some (compare (r:Int) (s:Int)):=by
 have f:∀ r:Nat,r<9218868437227405313→Fl.isNaN r=false∧Fl.K r=r:=by
  intro r hr;have e0:Fl.rg r=r:=Nat.mod_eq_of_lt (by omega);have e1:Fl.ng r=false:=by unfold Fl.ng;simp;omega
  refine⟨by unfold Fl.isNaN;rw[e0];simp;omega,by unfold Fl.K;rw[e0,e1];rfl⟩
 show Ieee.double.order r s=_;rw[Fl.order_some (f r hr).1 (f s hs).1,(f r hr).2,(f s hs).2]
theorem normalize_any (r:Nat) (h0:r≠0) (h:r<9218868437227405312) (w:World) :
  Calls Tryz.prog 187 #[.float .f64 r] w fun e w'=>e=.returned (.tuple #[.float .f64 (nrm r),.int .i64 (nrmE r)])∧w=w':=by
 obtain⟨hb,e0,e1,e2,_⟩:=pos_facts h0 h;have ha:=abs_any r hb;rw[e0]at ha;by_cases g:r<4503599627370496
 ·have ho:FloatKind.f64.format.order r 4503599627370496=some .lt:=by
   rw[pos_order (by omega) (by omega),Fl.cmp_int,if_pos (by omega)]
  have hm:Ieee.double.mul r 4841369599423283200=some (nrm r):=by
   unfold Ieee.Format.mul;rw[Fl.read_fin (by rw[e0];exact h),e0,e1,show Ieee.double.read 4841369599423283200=.number false 4503599627370496 0 from by decide];have f1:Fl.mag r=r:=by unfold Fl.mag;rw[if_pos g]
   have f2:Fl.plc r=0:=by unfold Fl.plc;rw[if_pos g]
   rw[f1,f2];simp only[Ieee.Datum.product,Bool.false_xor,Option.map_some,Ieee.Format.write];rw[show(4503599627370496:Nat)=2 ^ 52 from rfl,nearest_shift];have hl:r.log2<52:=(Nat.log2_lt h0).2 (by simpa using g);rw[show(-1074+((0:Nat):Int)+0+((52:Nat):Int)) = -1022 from by omega,Fl.nearest_fin _ h0 (by omega) (by omega) (by omega),word_false];unfold nrm;rw[if_pos g]
  have hr:=fun w=>run_float_arith (P:=Tryz.prog) w .mul 22 .f64 r 4841369599423283200 (nrm r) hm
  have HE:=zh (show nrmE r = -52 from by unfold nrmE;rw[if_pos g]);have HA:=zh ha;clear hm g ha hb e0 e1 e2 h0 h;go_in;go_wp2_with (go_at_call 131;refine(HA.out _).mono ?_;rintro e w' ⟨rfl,rfl⟩)
  go_ret2;exact⟨ret_val (by rw[HE.out];rfl),rfl⟩
 ·have ho:∃ o,FloatKind.f64.format.order r 4503599627370496=some o∧(some o==some .lt)=false:=by
   rw[pos_order (by omega) (by omega),Fl.cmp_int,if_neg (by omega)];split<;>exact⟨_,rfl,rfl⟩
  obtain⟨o,ho,ho2⟩:=ho;have HE:=zh (show nrmE r=0 from by unfold nrmE;rw[if_neg g]);have HN:=zh (show nrm r=r from by unfold nrm;rw[if_neg g]);have HA:=zh ha;clear g ha hb e0 e1 e2 h0 h;go_in;go_wp2_with (go_at_call 131;refine(HA.out _).mono ?_;rintro e w' ⟨rfl,rfl⟩)
  go_ret2;exact⟨ret_val (by rw[HE.out,HN.out];rfl),rfl⟩
end
section
open Go.RowKit
theorem frexp_frac {n:Nat} (h:n<9218868437227405312):(bits .or .u64 (bits .andNot .u64 (n:Int) 9218868437227405312) 4602678819172646912).toNat=1022*4503599627370496+n % 4503599627370496:=by
 have hm:n % 4503599627370496<4503599627370496:=Nat.mod_lt _ (by omega);have ho:=or_field (f:=n % 4503599627370496) (c:=1022) hm (by omega);rw[show((1022*4503599627370496:Nat):Int)=4602678819172646912 from by decide]at ho;rw[frac_bits (by omega),ho,Int.toNat_natCast]
theorem frexp_exp {n:Nat} {m:Int} (h:n<9218868437227405312) (h1 : -52≤m) (h2:m≤0) :
  wrap64 (m+wrap64 (wrap64 (wrap64 (bits .and .u64 ((n:Int) / 4503599627370496) 2047) - 1023)+1))=m+((n / 4503599627370496:Nat):Int) - 1022:=by
 rw[show(n:Int) / 4503599627370496=((n / 4503599627370496:Nat):Int) from by omega,field_and _ (by omega),Nat.mod_eq_of_lt (by omega)];have hq:n / 4503599627370496<2048:=by omega
 generalize n / 4503599627370496=q at *;simp only[wrap64];omega
theorem frexp_any (r:Nat) (h0:r≠0) (h:r<9218868437227405312) (w:World) :
  Calls Tryz.prog 130 #[.float .f64 r] w fun e w'=>e=.returned (.tuple #[.float .f64 (frx r),.int .i64 (frxE r)])∧w=w':=by
 obtain⟨hb,e0,e1,e2,ho⟩:=pos_facts h0 h;have hi:=isInf_any r hb;rw[e0,show decide (r=9218868437227405312)=false from by simp;omega]at hi;have hn:=isNaN_any r;rw[e2]at hn;have HI:=zh hi;have HN:=zh hn;have HM:=zh (normalize_any r h0 h);clear hi hn;obtain⟨n1,n2⟩:=nrm_bounds h0 h;have hf:=bits_run;have hg:=frombits_run;have HX:=zh (show frx r=1022*4503599627370496+nrm r % 4503599627370496 from rfl);have HE:=zh (show frxE r=nrmE r+((nrm r / 4503599627370496:Nat):Int) - 1022 from rfl);have hnE : -52≤nrmE r∧nrmE r≤0:=by unfold nrmE;split<;>omega
 generalize frx r=x at *;generalize frxE r=y at *;generalize nrm r=n at *;generalize nrmE r=m at *;have HF:=zh (frexp_frac n2);have HG:=zh (frexp_exp n2 hnE.1 hnE.2);clear n1 n2 e0 e1 e2 hb h0 h;go_in;go_wp2_with (first
  | (go_at_call 161;go_in)
  | (go_at_call 185;refine(HI.out _).mono ?_;rintro e w' ⟨rfl,rfl⟩)
  | (go_at_call 186;refine(HN.out _).mono ?_;rintro e w' ⟨rfl,rfl⟩)
  | (go_at_call 187;refine(HM.out _).mono ?_;rintro e w' ⟨rfl,rfl⟩))
 go_ret2;exact⟨ret_val (by rw[HX.out,HE.out,←HF.out,←HG.out];rfl),rfl⟩
theorem copysign_zero (r:Nat) (h:r<9223372036854775808) (w:World):Calls Tryz.prog 188 #[.float .f64 0,.float .f64 r] w fun e w'=>e=.returned (.float .f64 0)∧w=w':=by
 have hf:=bits_run;have hg:=frombits_run;have e1:bits .and .u64 (r:Int) 9223372036854775808=0:=by
  have:=bits_and_u64_nat r 9223372036854775808 (by omega) (by omega);rw[show((9223372036854775808:Nat):Int)=9223372036854775808 from rfl]at this;rw[this];have z:r &&& 9223372036854775808=0:=by
   apply Nat.eq_of_testBit_eq;intro i
   rw[Nat.testBit_and,show(9223372036854775808:Nat)=2 ^ 63 from rfl,Nat.zero_testBit];by_cases g:i=63
   ·subst g;rw[Nat.testBit_lt_two_pow (show r<2 ^ 63 from h)];rfl
   ·rw[Nat.testBit_two_pow_of_ne (by omega)];simp
  rw[z];rfl
 have e0:bits .andNot .u64 0 9223372036854775808=0:=by decide
 have e2:bits .or .u64 0 0=0:=by decide
 clear h;go_in;go_wp2
 go_ret;exact⟨ret_val rfl,rfl⟩
theorem ldexp_any (r:Nat) (hn:4503599627370496≤r) (h:r<9218868437227405312) (e:Int) (h1 : -100000≤e) (h2:e≤100000) (w:World) :
  Calls Tryz.prog 132 #[.float .f64 r,.int .i64 e] w fun en w'=>en=.returned (.float .f64 (ldxB r e))∧w=w':=by
 obtain⟨hb,e0,e1,e2,ho⟩:=pos_facts (show r≠0 by omega) h;have hi:=isInf_any r hb;rw[e0,show decide (r=9218868437227405312)=false from by simp;omega]at hi;have hnn:=isNaN_any r;rw[e2]at hnn;have HI:=zh hi;have HN:=zh hnn;have hm:=normalize_any r (by omega) h;rw[show nrm r=r from by unfold nrm;rw[if_neg (by omega)],show nrmE r=0 from by unfold nrmE;rw[if_neg (by omega)]]at hm;have HM:=zh hm;have HC:=zh (copysign_zero r (by omega));have HP:=zh inf_pos;clear hi hnn hm;have hf:=bits_run;have hg:=frombits_run;have HL:=zh (ldxB.eq_def r e);have HV:=zh (@ldx_mul r e);have HS:=zh (ldxS.eq_def r e);have hE:ldxE r e=e+((r / 4503599627370496:Nat):Int) - 1023:=rfl;have hq:bits .and .i64 (wrap64 ((r:Int) / 4503599627370496)) 2047=((r / 4503599627370496:Nat):Int):=by
  rw[show(r:Int) / 4503599627370496=((r / 4503599627370496:Nat):Int) from by omega,IntWalk.wrap64_in _ (by omega),field_and_i _ (by omega),Nat.mod_eq_of_lt (by omega)]
 have hqb:r / 4503599627370496<2047:=by omega
 have HF:=zh (frac_bits (r:=r) (by omega));have hfm:r % 4503599627370496<4503599627370496:=Nat.mod_lt _ (by omega);have HO:=zh (fun c hc=>or_field (f:=r % 4503599627370496) (c:=c) hfm hc);have HFM:=zh hfm;clear e0 e1 e2 hb hn h hfm;generalize r / 4503599627370496=q at *;generalize r % 4503599627370496=f at *;generalize ldxB r e=res at *;have HE:=zh hE;clear hE;by_cases c1:e+((q:Int) - 1023) < -1075
 ·rw[if_pos (by rw[HE.out];omega)]at HL;go_in;go_wp2_with (first
   | (go_at_call 163;go_in)
   | (go_at_call 185;refine(HI.out _).mono ?_;rintro e w' ⟨rfl,rfl⟩)
   | (go_at_call 186;refine(HN.out _).mono ?_;rintro e w' ⟨rfl,rfl⟩)
   | (go_at_call 188;refine(HC.out _).mono ?_;rintro e w' ⟨rfl,rfl⟩)
   | (go_at_call 187;refine(HM.out _).mono ?_;rintro e w' ⟨rfl,rfl⟩))
  go_ret;exact⟨ret_val (by rw[HL.out];rfl),rfl⟩
 ·by_cases c2:1023<e+((q:Int) - 1023)
  ·rw[if_neg (by rw[HE.out];omega),if_pos (by rw[HE.out];omega)]at HL;go_in;go_wp2_with (first
    | (go_at_call 163;go_in)
    | (go_at_call 185;refine(HI.out _).mono ?_;rintro e w' ⟨rfl,rfl⟩)
    | (go_at_call 186;refine(HN.out _).mono ?_;rintro e w' ⟨rfl,rfl⟩)
    | (go_at_call 141;refine(HP.out _).mono ?_;rintro e w' ⟨rfl,rfl⟩)
    | (go_at_call 187;refine(HM.out _).mono ?_;rintro e w' ⟨rfl,rfl⟩))
   go_ret;exact⟨ret_val (by rw[HL.out];rfl),rfl⟩
  ·by_cases c3:e+((q:Int) - 1023) < -1022
   ·rw[if_neg (by rw[HE.out];omega),if_neg (by rw[HE.out];omega),if_pos (by rw[HE.out];omega)]at HL;go_in;go_wp2_with (first
     | (go_at_call 163;go_in)
     | (go_at_call 185;refine(HI.out _).mono ?_;rintro e w' ⟨rfl,rfl⟩)
     | (go_at_call 186;refine(HN.out _).mono ?_;rintro e w' ⟨rfl,rfl⟩)
     | (go_at_call 187;refine(HM.out _).mono ?_;rintro e w' ⟨rfl,rfl⟩))
    have hx:(bits .or .u64 (bits .andNot .u64 (r:Int) 9218868437227405312) ((e+((q:Int) - 1023)+53+1023)*4503599627370496)).toNat=ldxS r e:=by
     rw[HF.out,show(e+((q:Int) - 1023)+53+1023)*4503599627370496=(((e+(q:Int) - 1023+53+1023).toNat*4503599627370496:Nat):Int) from by omega,HO.out _ (by omega),Int.toNat_natCast,HS.out,HE.out]
    rw[hx,run_float_arith _ .mul 22 .f64 _ _ _ (HV.out (by rw[HE.out];omega) (by rw[HE.out];omega))];clear hx;go_wp2
    go_ret;exact⟨ret_val (by rw[HL.out];rfl),rfl⟩
   ·rw[if_neg (by rw[HE.out];omega),if_neg (by rw[HE.out];omega),if_neg (by rw[HE.out];omega)]at HL;go_in;go_wp2_with (first
     | (go_at_call 163;go_in)
     | (go_at_call 185;refine(HI.out _).mono ?_;rintro e w' ⟨rfl,rfl⟩)
     | (go_at_call 186;refine(HN.out _).mono ?_;rintro e w' ⟨rfl,rfl⟩)
     | (go_at_call 187;refine(HM.out _).mono ?_;rintro e w' ⟨rfl,rfl⟩))
    have hx:(bits .or .u64 (bits .andNot .u64 (r:Int) 9218868437227405312) ((e+((q:Int) - 1023)+1023)*4503599627370496)).toNat=(ldxE r e+1023).toNat*4503599627370496+f:=by
     rw[HF.out,show(e+((q:Int) - 1023)+1023)*4503599627370496=(((ldxE r e+1023).toNat*4503599627370496:Nat):Int) from by rw[HE.out];omega,HO.out _ (by rw[HE.out];omega),Int.toNat_natCast]
    have hb:(ldxE r e+1023).toNat*4503599627370496+f<9218868437227405312:=by have:=HFM.out;rw[HE.out];omega
    rw[hx,run_float_arith _ .mul 22 .f64 _ _ _ (mul_one (show F64 _ from Nat.lt_trans hb (by omega)) (Nat.lt_of_le_of_lt (Nat.mod_le _ _) hb))];clear hx hb;go_wp2
    go_ret;exact⟨ret_val (by rw[HL.out];rfl),rfl⟩
end
section
open Go.RowKit
/-- a type whose first field is a builder, and that has no other -/
structure BT (T:TypeId):Prop where
 lies:liesAt Tryz.prog Tryz.prog.depth T (2 / Tryz.prog.cellsOf T) 0 52 1=true
 ne:T≠5
section
variable {T:TypeId} (hT:BT T)
include hT
theorem bcheck_used (b:Nat) (w:World) (h0:w.cell? ⟨b,0,none⟩=some (.pointer (some ⟨b,0,none⟩))) :
  Calls Tryz.prog 76 #[.pointer (some ⟨b,0,none⟩)] w fun e w'=>e=.returned (.tuple #[])∧w=w':=by
 obtain⟨j,hj,_⟩:=Option.map_eq_some_iff.1 (show(Tryz.prog.info? 52).map (·.size)=some 2 by kernel_rfl);have _:=hT.ne;go_in;go_wp2
 rw[Lib.run_neq_ptr_same w _ Tryz.underlying49 hj];go_wp2
 go_end0;exact⟨rfl,rfl⟩
theorem bcheck_fresh (b:Nat) (w:World) (h0:w.cell? ⟨b,0,none⟩=some (.pointer none)) (hsh:w.shape? b=some (T,2)) (hfz:w.frozen? ⟨b,0,none⟩=false) :
  Calls Tryz.prog 76 #[.pointer (some ⟨b,0,none⟩)] w fun e w'=>e=.returned (.tuple #[])∧w.setCell ⟨b,0,none⟩ (.pointer (some ⟨b,0,none⟩))=w':=by
 obtain⟨j,hj,hjs⟩:=Option.map_eq_some_iff.1 (show(Tryz.prog.info? 52).map (·.size)=some 2 by kernel_rfl);have HL:=zh hT.lies;go_in;go_wp2
 rw[Lib.run_to_unsafe w ⟨b,0,none⟩ Tryz.underlying49 Tryz.underlying135 hj (by rw[hjs];decide) hsh (Nat.zero_lt_succ 1)];simp only[Result.andThen];rw[Oper.upon_value];go_wp2
 rw[run_callFunc_extern Tryz.func107 (by kernel_rfl) (by kernel_rfl) (by kernel_rfl) (e:=Extern.AbiNoEscape.same) (by kernel_rfl)];rw[Lib.run_noEscape];simp only[Result.andThen];rw[Oper.upon_value];go_wp2
 rw[Lib.run_from_unsafe w ⟨b,0,none⟩ Tryz.underlying135 Tryz.underlying49 hj hsh HL.out];simp only[Result.andThen];rw[Oper.upon_value];go_wp2
 go_end0;exact⟨rfl,rfl⟩
theorem bcheck_any (B b:Nat) (bs:List Value) (w:World) (h:Lib.IsBuilderF T 5 B b bs w) :
  Calls Tryz.prog 76 #[.pointer (some ⟨b,0,none⟩)] w fun e w'=>e=.returned (.tuple #[])∧(Lib.BuilderAtF T 5 B b (.pointer (some ⟨b,0,none⟩)) bs w'∧Below B w w'∧Lib.OthersKept 5 (some b) w w'):=by
 rcases h with h|h
 ·refine(bcheck_fresh hT b w h.cell0 h.shape h.frozen0).mono ?_;rintro e w' ⟨rfl,rfl⟩;exact⟨rfl,h.used _,(Below.refl B w).setCell (p:=⟨b,0,none⟩) h.1 _,(Lib.OthersKept.refl _ _ w).setCell ⟨b,0,none⟩ rfl _⟩
 ·refine(bcheck_used hT b w h.cell0).mono ?_;rintro e w' ⟨rfl,rfl⟩;exact⟨rfl,h,Below.refl B _,Lib.OthersKept.refl _ _ _⟩
theorem bbyte_any (B b:Nat) (bs:List Value) (c:Int) (w:World) (h:Lib.IsBuilderF T 5 B b bs w) (hlen:bs.length+1≤140737488355328) (hBw:B≤w.heap.size) :
  Calls Tryz.prog 48 #[.pointer (some ⟨b,0,none⟩),.int .u8 c] w fun e w'=>e=.returned .nilIface∧(Lib.BuilderAtF T 5 B b (.pointer (some ⟨b,0,none⟩)) (bs++[.int .u8 c]) w'∧Below B w w'∧Lib.OthersKept 5 (some b) w w'):=by
 obtain⟨i0,hi,hz0,hz1,hz2⟩:=Go.info_parts (show(Tryz.prog.info? 5).map (fun i=>(i.zero,i.size,i.bytes))=some (some (.int .u8 0),1,1) by kernel_rfl);have HC:=zh (bcheck_any hT B b bs);have HN:=zh hT.ne;go_in;go_wp2_with fail
 refine(HC.out _ h).mono ?_;rintro e w1 ⟨rfl,h1,hb1,hk1⟩;obtain⟨hB,v,hbk,hown,hne⟩:=h1;obtain⟨c0,c1⟩:=cells2 hbk;go_wp2_with (at_builtin;refine wpList_append_ownF _ rfl _ _ 50 rfl B 5 i0 (.int .u8 0) 1 1 Tryz.underlying50 hi hz0 hz1 hz2 rfl (by decide) _ _ _ rfl (hown.alloc _) ⟨w1.heap.size,0,none⟩ 1 1 [.int .u8 c] rfl rfl ?c1 ?c2 ?c3 ?c4 ?c5 ?_)
 case c1 =>
  intro j u hj;match j,hj with
  | 0,hj=>simp at hj;subst hj;simp[Addr.add]
 case c2=>intro u hu;simp at hu;subst hu;rfl
 case c3=>unfold maxLen;omega
 case c4=>omega
 case c5=>have:=hb1.size;simp;omega
 intro v' w2 hown' hgrow _;have hlt:b<w1.heap.size:=by
  rcases Nat.lt_or_ge b w1.heap.size with h'|h'
  ·exact h'
  ·simp[Array.getElem?_eq_none h']at hbk
 have hb2:w2.heap[b]?=some (.cells #[.pointer (some ⟨b,0,none⟩),v] T (0,0)):=by
  rw[hgrow.block b (by simp;omega) (fun e=>hne e.symm),Lib.alloc_old w1 _ b hlt];exact hbk
 obtain⟨d0,d1⟩:=cells2 hb2;have f1:w2.frozen? ⟨b,1,none⟩=false:=Lib.frozen_of_heap hb2 1;obtain⟨g,cap,rfl⟩:∃ g cap,v'=.slice (some ⟨g,0,none⟩) (bs.length+1) cap:=by
  rcases hown'.2 with ⟨_,h0⟩|⟨g,cap,cur,fz,hv,_⟩
  ·omega
  ·exact⟨g,cap,hv⟩
 go_wp2
 go_ret;refine⟨rfl,?_,?_,((hk1.alloc _).grown hgrow (Lib.ownsRowF_kind (hown.alloc _))).setCell ⟨b,1,none⟩ rfl _⟩
 ·exact Lib.BuilderAtF.put (T:=T) (e:=5) hB hb2 (bs':=bs++[.int .u8 c]) (by simpa using hown') HN.out
 ·exact((hb1.alloc (by have:=hb1.size;omega) _).grown hgrow (by have:=hb1.size;simp;omega) (fun k hk=>(hown.lt k hk).1)).setCell (p:=⟨b,1,none⟩) hB _
theorem bstring_any (B b:Nat) (bs:List Value) (s:ByteArray) (w:World) (h:Lib.IsBuilderF T 5 B b bs w) (hlen:bs.length+s.size≤140737488355328) (hBw:B≤w.heap.size) :
  Calls Tryz.prog 44 #[.pointer (some ⟨b,0,none⟩),.string s] w fun e w'=>e=.returned (.tuple #[.int .i64 s.size,.nilIface])∧(Lib.BuilderAtF T 5 B b (.pointer (some ⟨b,0,none⟩)) (bs++Lib.strCells s) w'∧Below B w w'∧Lib.OthersKept 5 (some b) w w'):=by
 obtain⟨i0,hi,hz0,hz1,hz2⟩:=Go.info_parts (show(Tryz.prog.info? 5).map (fun i=>(i.zero,i.size,i.bytes))=some (some (.int .u8 0),1,1) by kernel_rfl);have HC:=zh (bcheck_any hT B b bs);have HN:=zh hT.ne;go_in;go_wp2_with fail
 refine(HC.out _ h).mono ?_;rintro e w1 ⟨rfl,h1,hb1,hk1⟩;obtain⟨hB,v,hbk,hown,hne⟩:=h1;obtain⟨c0,c1⟩:=cells2 hbk;go_wp2_with (at_builtin;refine Lib.wpList_append_own_stringF _ rfl _ _ 50 9 rfl B 5 i0 Tryz.underlying50 Tryz.underlying9 hi hz0 hz1 hz2 _ _ _ rfl hown s rfl ?c3 ?c4 ?c5 ?_)
 case c3=>unfold maxLen;omega
 case c4=>omega
 case c5=>have:=hb1.size;omega
 intro v' w2 hown' hgrow _;have hlt:b<w1.heap.size:=by
  rcases Nat.lt_or_ge b w1.heap.size with h'|h'
  ·exact h'
  ·simp[Array.getElem?_eq_none h']at hbk
 have hb2:w2.heap[b]?=some (.cells #[.pointer (some ⟨b,0,none⟩),v] T (0,0)):=by
  rw[hgrow.block b hlt (fun e=>hne e.symm)];exact hbk
 obtain⟨d0,d1⟩:=cells2 hb2;have f1:w2.frozen? ⟨b,1,none⟩=false:=Lib.frozen_of_heap hb2 1;obtain⟨ao,n',cap,rfl⟩:∃ ao n' cap,v'=.slice ao n' cap:=by
  rcases hown'.2 with ⟨hv,_⟩|⟨g,cap,cur,fz,hv,_⟩
  ·exact⟨_,_,_,hv⟩
  ·exact⟨_,_,_,hv⟩
 go_wp2
 go_ret2;refine⟨rfl,?_,?_,(hk1.grown hgrow (Lib.ownsRowF_kind hown)).setCell ⟨b,1,none⟩ rfl _⟩
 ·exact Lib.BuilderAtF.put (T:=T) (e:=5) hB hb2 (bs':=bs++Lib.strCells s) (by simpa [Lib.strCells_length] using hown') HN.out
 ·exact(hb1.grown hgrow (by have:=hb1.size;omega) (fun k hk=>(hown.lt k hk).1)).setCell (p:=⟨b,1,none⟩) hB _
theorem btext_any (B b:Nat) (l:List UInt8) (w:World) (h:Lib.IsBuilderF T 5 B b (Lib.byteCells l) w) (hBw:B≤w.heap.size) :
  Calls Tryz.prog 23 #[.pointer (some ⟨b,0,none⟩)] w fun e w'=>e=.returned (.string ⟨l.toArray⟩)∧Below B w w':=by
 have _:=hT.ne;obtain⟨p,hAt⟩:∃ p,Lib.BuilderAtF T 5 B b p (Lib.byteCells l) w:=by
  rcases h with h|h<;>exact⟨_,h⟩
 have hlt:=hAt.lt;obtain⟨hB,v,hbk,hown,hne⟩:=hAt;rw[Lib.byteCells_length]at hown;rcases hown.2 with ⟨rfl,hl⟩|⟨g,cap,cur,fz,rfl,hbg,hg,hfz,hnc,hcm,hcs,htake⟩
 ·obtain rfl:l=[]:=List.length_eq_zero_iff.1 hl;have c1:w.cell? ⟨b,1,none⟩=some (.slice none 0 0):=by rw[zc hbk];rfl
  have hUS:∀ (W:World) (q:Option Addr),(Builtin.unsafeString_ #[88,3] 9 #[.pointer q,.int .i64 0]).run Tryz.prog W=.ok (.string .empty) W:=fun W q=>Lib.run_unsafeString_none W _ _ _ q
  have hSD:∀ W:World,(Builtin.unsafeSliceData_ #[50] 88 #[.slice none 0 0]).run Tryz.prog W=.ok (.pointer none) W:=fun _=>rfl
  clear hown hne hbk;go_in;go_wp2
  go_region
  all_goals (go_wp2;go_ret;exact⟨rfl,Below.drew (Below.refl B w)⟩)
 ·by_cases h0:l=[]
  ·subst h0;have hUS:∀ (W:World) (q:Option Addr),(Builtin.unsafeString_ #[88,3] 9 #[.pointer q,.int .i64 0]).run Tryz.prog W=.ok (.string .empty) W:=fun W q=>Lib.run_unsafeString_none W _ _ _ q
   by_cases hc0:cap=0
   ·subst hc0;have c1:w.drew.cell? ⟨b,1,none⟩=some (.slice (some ⟨g,0,none⟩) 0 0):=by
     have:w.drew.heap[b]?=some (.cells #[p,.slice (some ⟨g,0,none⟩) 0 0] T (0,0)):=hbk;rw[zc this];rfl
    have hSD:(Builtin.unsafeSliceData_ #[50] 88 #[.slice (some ⟨g,0,none⟩) 0 0]).run Tryz.prog w.drew=.ok (.pointer (some ⟨w.drew.heap.size,0,none⟩)) (w.drew.alloc (.view ⟨g,0,none⟩ 5)) :=
     Lib.run_unsafeSliceData_zero w.drew _ _ 5 Tryz.underlying88 ⟨g,0,none⟩ 0 (5,cur.size) (by have hg':w.drew.heap[g]?=some (.cells cur 5 fz):=hg;simp[World.shape?,hg'])
    have c2:(w.drew.alloc (.view ⟨g,0,none⟩ 5)).cell? ⟨b,1,none⟩=some (.slice (some ⟨g,0,none⟩) 0 0):=by
     have:(w.drew.alloc (.view ⟨g,0,none⟩ 5)).heap[b]?=_:=(Lib.alloc_old w.drew _ b hlt).trans hbk;rw[zc this];rfl
    have c3:(w.alloc (.view ⟨g,0,none⟩ 5)).drew.cell? ⟨b,1,none⟩=some (.slice (some ⟨g,0,none⟩) 0 0):=c2;have c0:w.cell? ⟨b,1,none⟩=some (.slice (some ⟨g,0,none⟩) 0 0):=c1;clear hown hne hbk htake hcs hcm hnc hfz hg;go_in;go_wp2
    go_region
    all_goals (go_wp2;go_ret;exact⟨rfl,(Below.drew (Below.refl B w)).alloc hBw _⟩)
   ·have c1:w.cell? ⟨b,1,none⟩=some (.slice (some ⟨g,0,none⟩) 0 cap):=by rw[zc hbk];rfl
    have hSD:∀ W:World,(Builtin.unsafeSliceData_ #[50] 88 #[.slice (some ⟨g,0,none⟩) 0 cap]).run Tryz.prog W=.ok (.pointer (some ⟨g,0,none⟩)) W:=fun _=>Lib.run_unsafeSliceData_row _ _ _ _ _ _ hc0
    clear hown hne hbk htake hcs hcm hnc hfz hg hc0;go_in;go_wp2
    go_region
    all_goals (go_wp2;go_ret;exact⟨rfl,Below.drew (Below.refl B w)⟩)
  ·have hl0:l.length≠0:=by simpa using h0
   have c1:w.drew.cell? ⟨b,1,none⟩=some (.slice (some ⟨g,0,none⟩) l.length cap):=by
    have:w.drew.heap[b]?=some (.cells #[p,.slice (some ⟨g,0,none⟩) l.length cap] T (0,0)):=hbk;rw[zc this];rfl
   have hSD:(Builtin.unsafeSliceData_ #[50] 88 #[.slice (some ⟨g,0,none⟩) l.length cap]).run Tryz.prog w.drew=.ok (.pointer (some ⟨g,0,none⟩)) w.drew :=
    Lib.run_unsafeSliceData_row _ _ _ _ _ _ (by omega)
   have hUS:(Builtin.unsafeString_ #[88,3] 9 #[.pointer (some ⟨g,0,none⟩),.int .i64 l.length]).run Tryz.prog w.drew=.ok (.string ⟨l.toArray⟩) (w.drew.freeze ⟨g,0,none⟩ l.length):=by
    refine Lib.run_unsafeString_row w.drew 88 3 9 5 Tryz.underlying88 (by kernel_rfl) g cur.size (by have hg':w.drew.heap[g]?=some (.cells cur 5 fz):=hg;simp[World.shape?,hg']) l h0 (by omega) (by unfold maxLen at hcm;omega) ?_;intro j x hx;have:=hown.cells (g:=g) rfl j (.int .u8 x.toNat) (by simp[Lib.byteCells,hx]);exact this
   clear hown hne hbk htake hcs hcm hnc hfz hg;go_in;go_wp2
   go_region
   all_goals (go_wp2;go_ret;exact⟨rfl,Lib.below_freeze (Below.drew (Below.refl B w)) (p:=⟨g,0,none⟩) hbg _⟩)
end
/-- a writer of the call's own, of such a type -/
def Bld (T:TypeId) (B b:Nat) (o:List UInt8) (w:World):Prop:=B≤w.heap.size∧Lib.IsBuilderF T 5 B b (Lib.byteCells o) w
/-- whatever is no row of bytes, and not block b, is as it was; nor is anything that lay below B another -/
def Wrote (B b:Nat) (w w':World):Prop:=Below B w w'∧Lib.OthersKept 5 (some b) w w'
theorem Wrote.refl (B b:Nat) (w:World):Wrote B b w w:=⟨Below.refl _ _,Lib.OthersKept.refl _ _ _⟩
theorem Wrote.trans {B b:Nat} {u w x:World} (h:Wrote B b u w) (k:Wrote B b w x):Wrote B b u x:=⟨h.1.trans k.1,h.2.trans k.2⟩
theorem Wrote.alloc {B b:Nat} {u w:World} (h:Wrote B b u w) (hB:B≤w.heap.size) (o:Obj):Wrote B b u (w.alloc o):=⟨h.1.alloc hB o,h.2.alloc o⟩
theorem Wrote.drew {B b:Nat} {u w:World} (h:Wrote B b u w):Wrote B b u w.drew:=⟨h.1.drew,h.2.drew⟩
theorem Wrote.below {B b:Nat} {u w x:World} (h:Wrote B b u w) (hB:B≤w.heap.size) (k:Below w.heap.size w x):Wrote B b u x :=
 ⟨h.1.trans (k.mono hB),h.2.trans fun i _ hi _ _=>(k.block i (lt_of_block hi)).trans hi⟩
theorem Wrote.size {B b:Nat} {u w:World} (h:Wrote B b u w):u.heap.size≤w.heap.size:=h.1.size
theorem Wrote.block {B b k:Nat} {u w:World} {cs:Array Value} {T:TypeId} {fz:Nat × Nat} (h:Wrote B b u w) (hk:u.heap[k]?=some (.cells cs T fz)) (hb:k≠b) (hT:T≠5):w.heap[k]?=some (.cells cs T fz) :=
 h.2 k _ hk (fun e=>hb (Option.some.inj e)) (fun c f e=>hT (by injection e))
theorem Bld.fresh (T:TypeId) (w:World):Bld T w.heap.size w.heap.size [] (w.alloc (.cells #[.pointer none,.slice none 0 0] T)) :=
 ⟨by simp,.inl ⟨Nat.le_refl _,.slice none 0 0,heap_alloc_new w _,⟨rfl,.inl ⟨rfl,rfl⟩⟩,by simp[Value.ownBlock]⟩⟩
theorem Bld.below {T:TypeId} {B b:Nat} {o:List UInt8} {w w':World} (h:Bld T B b o w) (hb:Below w.heap.size w w'):Bld T B b o w':=by
 obtain⟨hB,h⟩:=h;refine⟨Nat.le_trans hB hb.size,?_⟩;have kept:∀ {v:Value} {n:Nat} {bs:List Value},w.ownsRowF B 5 1 v n bs→w'.ownsRowF B 5 1 v n bs:=fun h =>
  h.kept (row:=none) ⟨hb.os,hb.tape,hb.output,hb.size,fun k hk _=>hb.block k hk⟩ (Classical.em _)
 rcases h with h|h<;>obtain⟨hb0,v,hbk,hown,hn⟩:=h
 ·exact .inl ⟨hb0,v,(hb.block _ (lt_of_block hbk)).trans hbk,kept hown,hn⟩
 ·exact .inr ⟨hb0,v,(hb.block _ (lt_of_block hbk)).trans hbk,kept hown,hn⟩
theorem Bld.alloc {T:TypeId} {B b:Nat} {o:List UInt8} {w:World} (h:Bld T B b o w) (x:Obj):Bld T B b o (w.alloc x):=h.below ((Below.refl _ _).alloc (Nat.le_refl _) _)
theorem Bld.drew {T:TypeId} {B b:Nat} {o:List UInt8} {w:World} (h:Bld T B b o w):Bld T B b o w.drew:=h
theorem Bld.lt {T:TypeId} {B b:Nat} {o:List UInt8} {w:World} (h:Bld T B b o w):b<w.heap.size∧B≤b:=by
 rcases h.2 with h|h<;>exact⟨h.lt,h.1⟩
theorem Bld.write {T:TypeId} (hT:BT T) {B b:Nat} {o:List UInt8} {w:World} (h:Bld T B b o w) (hlen:o.length≤100000000) (c:UInt8) :
  Calls Tryz.prog 48 #[.pointer (some ⟨b,0,none⟩),.int .u8 c.toNat] w fun e w'=>e=.returned .nilIface∧Bld T B b (o++[c]) w'∧Wrote B b w w' :=
 (bbyte_any hT B b (Lib.byteCells o) c.toNat w h.2 (by rw[Lib.byteCells_length];omega) h.1).mono fun _ _ ⟨he,h1,h2,h3⟩=>⟨he,⟨Nat.le_trans h.1 h2.size,.inr (by rw[Lib.byteCells_append];exact h1)⟩,h2,h3⟩
theorem Bld.writeS {T:TypeId} (hT:BT T) {B b:Nat} {o:List UInt8} {w:World} (h:Bld T B b o w) (l:List UInt8) (hlen:o.length+l.length≤100000000) :
  Calls Tryz.prog 44 #[.pointer (some ⟨b,0,none⟩),.string ⟨l.toArray⟩] w fun e w'=>e=.returned (.tuple #[.int .i64 l.length,.nilIface])∧Bld T B b (o++l) w'∧Wrote B b w w' :=
 (bstring_any hT B b (Lib.byteCells o) ⟨l.toArray⟩ w h.2 (by rw[Lib.byteCells_length];show o.length+l.toArray.size≤_;simp;omega) h.1).mono fun _ _ ⟨he,h1,h2,h3⟩=>⟨by rw[he];rfl,⟨Nat.le_trans h.1 h2.size,.inr (by rw[Lib.byteCells_append];exact h1)⟩,h2,h3⟩
theorem Bld.text {T:TypeId} (hT:BT T) {B b:Nat} {o:List UInt8} {w:World} (h:Bld T B b o w) :
  Calls Tryz.prog 23 #[.pointer (some ⟨b,0,none⟩)] w fun e w'=>e=.returned (.string ⟨o.toArray⟩)∧Below B w w' :=
 btext_any hT B b o w h.2 h.1
end
end Go.Proofs.YtaaaaggmhjhkkaaGreatDoor
