/-
  Fl, Fp, Fd, Kp, V1, V2, Q1, Q2, U0, W1, V3, V4, V5, V6, V7, V8 in one text.
-/
import Derived.BigQuiet
import Derived.Deep.Cut
import Derived.Handy
import Derived.Lib.Hide
import Derived.Lib.IndexMore
import Derived.Lib.ItoaNum
import Derived.Lib.MinMax
import Derived.Lib.ParseIntB
import Derived.Test.YtepaaochgljcdaaGreatDoorChecked
import Derived.WalkLawsBesides
import Derived.WalkSpells
import Derived.Test.YtepaaochgljcdaaGreatDoorCl
set_option maxRecDepth 100000
set_option maxHeartbeats 4000000
namespace Go.Proofs.YtepaaochgljcdaaGreatDoor
section
namespace Fl
open Ieee
theorem sW:double.signWeight=9223372036854775808:=by decide
theorem bW:double.binade=4503599627370496:=by decide
theorem iR:double.infRung=9218868437227405312:=by decide
theorem lP:double.leastPlace = -1074:=by decide
/-- the magnitude's two parts, of a rung -/
def mag (r:Nat):Nat:=if r<4503599627370496 then r else 4503599627370496+r % 4503599627370496
def plc (r:Nat):Nat:=if r<4503599627370496 then 0 else r / 4503599627370496 - 1
def ng (b:Nat):Bool:=b / 9223372036854775808 % 2==1
def rg (b:Nat):Nat:=b % 9223372036854775808
theorem read_fin {b:Nat} (h:rg b<9218868437227405312):double.read b=.number (ng b) (mag (rg b)) (-1074+(plc (rg b):Int)):=by
 unfold rg at h;unfold Format.read mag plc ng rg;simp only[sW,bW,iR,lP];split
 ·simp
 ·simp
theorem read_inf {b:Nat} (h:rg b=9218868437227405312):double.read b=.infinity (ng b):=by
 unfold rg at h;unfold Format.read ng;simp only[sW,bW,iR,lP,h];simp
theorem read_nan {b:Nat} (h:9218868437227405312<rg b):double.read b=.nan (ng b) (rg b - 9218868437227405312):=by
 unfold rg at h;unfold Format.read ng rg;simp only[sW,bW,iR,lP];rw[if_neg (by omega),if_neg (by omega),if_neg (by omega)]
theorem mag_lt (r:Nat):mag r<9007199254740992:=by unfold mag;split<;>omega
/-- the magnitude as a whole number of least units -/
def M (r:Nat):Nat:=mag r*2 ^ plc r
theorem mag_norm {r:Nat} (h:0<plc r):4503599627370496≤mag r:=by
 unfold plc at h;unfold mag;split at h
 ·omega
 ·rw[if_neg (by omega)];omega
theorem rung_eq (r:Nat):r=plc r*4503599627370496+mag r:=by
 unfold plc mag;split
 ·omega
 ·omega
theorem M_mono {r s:Nat} (h:r<s):M r<M s:=by
 unfold M;have e1:=rung_eq r;have e2:=rung_eq s;have m1:=mag_lt r;have m2:=mag_lt s;by_cases hp:plc r=plc s
 ·rw[hp];exact Nat.mul_lt_mul_of_pos_right (by omega) (Nat.two_pow_pos _)
 ·have hlt:plc r<plc s:=by
   by_cases g:0<plc r
   ·have:=mag_norm g;omega
   ·omega
  have hm:=mag_norm (show 0<plc s by omega);obtain⟨d,hd⟩:∃ d,plc s=plc r+1+d:=⟨plc s - plc r - 1,by omega⟩;rw[hd,Nat.pow_add,Nat.pow_succ];have hp:=Nat.two_pow_pos (plc r);have hd:=Nat.two_pow_pos d;calc mag r*2 ^ plc r<9007199254740992*2 ^ plc r:=Nat.mul_lt_mul_of_pos_right m1 hp
   _≤mag s*(2 ^ plc r*2):=by
    rw[Nat.mul_comm (2 ^ plc r) 2,←Nat.mul_assoc];exact Nat.mul_le_mul_right _ (by omega)
   _≤mag s*(2 ^ plc r*2*2 ^ d):=Nat.mul_le_mul_left _ (Nat.le_mul_of_pos_right _ hd)
theorem M_lt_iff {r s:Nat}:M r<M s↔r<s:=by
 constructor
 ·intro h;rcases Nat.lt_trichotomy r s with g|g|g
  ·exact g
  ·subst g;omega
  ·have:=M_mono g;omega
 ·exact M_mono
theorem M_zero:M 0=0:=by decide
/-- the place of a float in the row of numbers; the two zeros have one -/
def K (b:Nat):Int:=if ng b then -(rg b:Int) else rg b
def isNaN (b:Nat):Bool:=decide (9218868437227405312<rg b)
theorem cmp_int (x y:Int):compare x y=if x<y then .lt else if x=y then .eq else .gt:=rfl
theorem signed_eq (s:Bool) (m u:Nat):signed s m u=if s then -((m*2 ^ u:Nat):Int) else((m*2 ^ u:Nat):Int):=by
 unfold signed;simp[Nat.shiftLeft_eq]
theorem signed_lt_iff (s t:Bool) (m n u v c:Nat) :
  (signed s m u<signed t n v↔signed s m (u+c)<signed t n (v+c))∧(signed s m u=signed t n v↔signed s m (u+c)=signed t n (v+c)):=by
 have hc:(0:Int)<((2 ^ c:Nat):Int):=by have:=Nat.two_pow_pos c;omega
 have e:∀ (s:Bool) (m u:Nat),signed s m (u+c)=signed s m u*((2 ^ c:Nat):Int):=by
  intro s m u;rw[signed_eq,signed_eq];have:m*2 ^ (u+c)=m*2 ^ u*2 ^ c:=by rw[Nat.pow_add,Nat.mul_assoc]
  rw[this,Int.natCast_mul (m*2 ^ u)];split
  ·rw[Int.neg_mul]
  ·rfl
 rw[e,e];constructor
 ·constructor
  ·intro h;exact Int.mul_lt_mul_of_pos_right h hc
  ·intro h;exact Int.lt_of_mul_lt_mul_right h (Int.le_of_lt hc)
 ·constructor
  ·intro h;rw[h]
  ·intro h;exact Int.eq_of_mul_eq_mul_right (by omega) h
/-- the value of a finite float in least units -/
def V (b:Nat):Int:=signed (ng b) (mag (rg b)) (plc (rg b))
theorem V_eq (b:Nat):V b=if ng b then -(M (rg b):Int) else(M (rg b):Int):=by
 unfold V;rw[signed_eq];rfl
theorem V_lt_iff (a b:Nat):V a<V b↔K a<K b:=by
 rw[V_eq,V_eq];unfold K;have h1:=@M_lt_iff (rg a) (rg b);have h2:=@M_lt_iff (rg b) (rg a);have z1:=@M_lt_iff 0 (rg a);have z2:=@M_lt_iff 0 (rg b);rw[M_zero]at z1 z2;split<;>split<;>omega
theorem V_eq_iff (a b:Nat):V a=V b↔K a=K b:=by
 have h1:=V_lt_iff a b;have h2:=V_lt_iff b a;omega
theorem order_num {a b:Nat} (ha:rg a<9218868437227405312) (hb:rg b<9218868437227405312) :
  double.order a b=some (compare (K a) (K b)):=by
 unfold Format.order;rw[read_fin ha,read_fin hb];unfold Datum.order;simp only;congr 1
 generalize hi:(-1074+(plc (rg a):Int))=i;generalize hj:(-1074+(plc (rg b):Int))=j;have s1:=signed_lt_iff (ng a) (ng b) (mag (rg a)) (mag (rg b)) (i - min i j).toNat (j - min i j).toNat (min i j+1074).toNat;rw[show(i - min i j).toNat+(min i j+1074).toNat=plc (rg a) from by omega,show(j - min i j).toNat+(min i j+1074).toNat=plc (rg b) from by omega]at s1;have v1:=V_lt_iff a b;have v2:=V_eq_iff a b;unfold V at v1 v2;rw[cmp_int,cmp_int];by_cases g1:K a<K b
 ·rw[if_pos (s1.1.2 (v1.2 g1)),if_pos g1]
 ·rw[if_neg (fun h=>g1 (v1.1 (s1.1.1 h))),if_neg g1];by_cases g2:K a=K b
  ·rw[if_pos (s1.2.2 (v2.2 g2)),if_pos g2]
  ·rw[if_neg (fun h=>g2 (v2.1 (s1.2.1 h))),if_neg g2]
theorem order_some {a b:Nat} (ha:isNaN a=false) (hb:isNaN b=false):double.order a b=some (compare (K a) (K b)):=by
 unfold isNaN at ha hb;simp only[decide_eq_false_iff_not,Nat.not_lt]at ha hb;by_cases h1:rg a<9218868437227405312
 ·by_cases h2:rg b<9218868437227405312
  ·exact order_num h1 h2
  ·unfold Format.order;rw[read_fin h1,read_inf (show rg b=_ by omega)];unfold Datum.order;simp only;congr 1;rw[cmp_int];unfold K;cases hng:ng b<;>simp only[Bool.false_eq_true,if_false,if_true]
   ·rw[if_pos (by split<;>omega)]
   ·rw[if_neg (by split<;>omega),if_neg (by split<;>omega)]
 ·by_cases h2:rg b<9218868437227405312
  ·unfold Format.order;rw[read_fin h2,read_inf (show rg a=_ by omega)];unfold Datum.order;simp only;congr 1;rw[cmp_int];unfold K;cases hng:ng a<;>simp only[Bool.false_eq_true,if_false,if_true]
   ·rw[if_neg (by split<;>omega),if_neg (by split<;>omega)]
   ·rw[if_pos (by split<;>omega)]
  ·unfold Format.order;rw[read_inf (show rg a=_ by omega),read_inf (show rg b=_ by omega)];unfold Datum.order;simp only;congr 1;rw[cmp_int];unfold K;rw[show rg a=9218868437227405312 from by omega,show rg b=9218868437227405312 from by omega];cases ng a<;>cases ng b<;>decide
theorem order_nan_left {a:Nat} (b:Nat) (h:isNaN a=true):double.order a b=none:=by
 unfold isNaN at h;simp only[decide_eq_true_eq]at h;unfold Format.order;rw[read_nan h];unfold Datum.order;cases double.read b<;>rfl
theorem order_nan_right (a:Nat) {b:Nat} (h:isNaN b=true):double.order a b=none:=by
 unfold isNaN at h;simp only[decide_eq_true_eq]at h;unfold Format.order;rw[read_nan h];unfold Datum.order;cases double.read a<;>rfl
/-- Go's comparisons, as plain ones -/
def feq (a b:Nat):Bool:=!isNaN a&&!isNaN b&&decide (K a=K b)
def flt (a b:Nat):Bool:=!isNaN a&&!isNaN b&&decide (K a<K b)
theorem order_eq (a b:Nat):(double.order a b==some .eq)=feq a b:=by
 unfold feq;cases ha:isNaN a
 ·cases hb:isNaN b
  ·rw[order_some ha hb,cmp_int];by_cases g:K a=K b
   ·simp[g]
   ·by_cases g1:K a<K b<;>simp[g,g1]
  ·simp[order_nan_right a hb]
 ·simp[order_nan_left b ha]
theorem order_lt (a b:Nat):(double.order a b==some .lt)=flt a b:=by
 unfold flt;cases ha:isNaN a
 ·cases hb:isNaN b
  ·rw[order_some ha hb,cmp_int];by_cases g1:K a<K b
   ·simp[g1]
   ·by_cases g:K a=K b<;>simp[g,g1]
  ·simp[order_nan_right a hb]
 ·simp[order_nan_left b ha]
theorem order_gt (a b:Nat):(double.order a b==some .gt)=flt b a:=by
 unfold flt;cases ha:isNaN a
 ·cases hb:isNaN b
  ·rw[order_some ha hb,cmp_int];by_cases g1:K a<K b
   ·have:¬ K b<K a:=by omega
    simp[g1,this]
   ·by_cases g:K a=K b
    ·simp[g]
    ·have:K b<K a:=by omega
     simp[g,g1,this]
  ·simp[order_nan_right a hb]
 ·simp[order_nan_left b ha]
end Fl
end
section
/-- a word of 64 bits -/
def F64 (b:Nat):Prop:=b<18446744073709551616
theorem F64.out {b:Nat} (h:F64 b):b<18446744073709551616:=h
def cnan:Nat:=9221120237041090560
def canon (b:Nat):Nat:=if Fl.isNaN b then cnan else b
def isZ (b:Nat):Bool:=decide (Fl.rg b=0)
def keyB (b:Nat):Int:=if Fl.isNaN b then 9223372036854775807 else if Fl.ng b then -1 - (Fl.rg b:Int) else Fl.rg b
def ordB (a b:Nat):Int:=if keyB a<keyB b then -1 else if keyB b<keyB a then 1 else 0
def rank1 (b:Nat):Int:=if Fl.isNaN b then 1 else 0
def rank2 (b:Nat):Int:=if Fl.isNaN b then 0 else if isZ b&&Fl.ng b then -1 else 0
theorem cnan_F64:F64 cnan:=by unfold F64 cnan;omega
theorem canon_F64 {b:Nat} (h:F64 b):F64 (canon b):=by unfold canon;split;exact cnan_F64;exact h
theorem nan_cnan:Fl.isNaN cnan=true:=by decide
theorem nan_canon (b:Nat):Fl.isNaN (canon b)=Fl.isNaN b:=by
 unfold canon;cases h:Fl.isNaN b<;>simp[h,nan_cnan]
theorem canon_canon (b:Nat):canon (canon b)=canon b:=by
 have:=nan_canon b;cases h:Fl.isNaN b
 ·rw[h]at this;rw[canon,this];simp
 ·rw[h]at this;simp[canon,h,nan_cnan]
theorem nan_lt {b:Nat} (h:Fl.isNaN b=false):Fl.rg b≤9218868437227405312:=by
 unfold Fl.isNaN at h;simpa using h
theorem ng_cases {b:Nat} (hb:F64 b):(Fl.ng b=true∧b=9223372036854775808+Fl.rg b)∨(Fl.ng b=false∧b=Fl.rg b):=by
 unfold F64 at hb;unfold Fl.ng Fl.rg;by_cases g:b / 9223372036854775808 % 2=1
 ·left;simp[g];omega
 ·right;simp[g];omega
theorem rg_lt (b:Nat):Fl.rg b<9223372036854775808:=Nat.mod_lt _ (by omega)
theorem keyB_le {b:Nat} (h:Fl.isNaN b=false):keyB b≤9218868437227405312 ∧ -9218868437227405313≤keyB b:=by
 have:=nan_lt h;unfold keyB;rw[h];simp only[Bool.false_eq_true,if_false];split<;>omega
theorem keyB_nan {b:Nat} (h:Fl.isNaN b=true):keyB b=9223372036854775807:=by unfold keyB;simp[h]
theorem bits_shl (b:Nat):IntKind.u64.wrap ((b:Int)*2)=2*(Fl.rg b:Int):=by
 unfold Fl.rg IntKind.wrap;simp[IntKind.bits,IntKind.signed];omega
theorem nan_bits (b:Nat):decide (18437736874454810624<IntKind.u64.wrap ((b:Int)*2))=Fl.isNaN b:=by
 rw[bits_shl];unfold Fl.isNaN;apply decide_eq_decide.2;omega
theorem ng_bits {b:Nat} (hb:F64 b):decide (9223372036854775808≤(b:Int))=Fl.ng b:=by
 have h1:=rg_lt b;rcases ng_cases hb with ⟨h,e⟩|⟨h,e⟩<;>rw[h]<;>simp<;>omega
/-- the program's order, by ranks and Go's comparisons, is the row's -/
def ordF (a b:Nat):Int :=
 if rank1 a≠rank1 b then rank1 a - rank1 b else if rank1 a=1 then 0
 else if Fl.flt a b||(Fl.feq a b&&decide (rank2 a<rank2 b)) then -1
 else if Fl.flt b a||(Fl.feq a b&&decide (rank2 b<rank2 a)) then 1 else 0
theorem ordF_eq (a b:Nat):ordF a b=ordB a b:=by
 unfold ordF rank1 rank2;cases ha:Fl.isNaN a
 ·cases hb:Fl.isNaN b
  ·have ka:=keyB_le ha;have kb:=keyB_le hb;unfold Fl.flt Fl.feq Fl.K ordB keyB isZ;simp only[ha,hb,Bool.not_false,Bool.true_and,Bool.false_eq_true,if_false,ne_eq,not_true,if_false];rw[if_neg (by omega)];cases Fl.ng a<;>cases Fl.ng b<;>simp only[Bool.false_eq_true,if_false,if_true,Bool.and_true,Bool.and_false,decide_eq_true_eq,Bool.or_eq_true,Bool.and_eq_true]<;>repeat' split
   all_goals omega
  ·have ka:=keyB_le ha;have kb:=keyB_nan hb;have e:ordB a b = -1:=by unfold ordB;rw[kb,if_pos (by omega)]
   rw[e];rfl
 ·cases hb:Fl.isNaN b
  ·have ka:=keyB_nan ha;have kb:=keyB_le hb;have e:ordB a b=1:=by unfold ordB;rw[ka,if_neg (by omega),if_pos (by omega)]
   rw[e];rfl
  ·have ka:=keyB_nan ha;have kb:=keyB_nan hb;unfold ordB;rw[ka,kb];simp
end
section
open Go
def isDig (c:UInt8):Bool:=decide (48≤c.toNat∧c.toNat≤57)
end
section
open Go
/-- how far a text goes on so from a place -/
def far (p:UInt8→Bool) (l:List UInt8) (a:Nat):Nat:=((l.drop a).takeWhile p).length
def isLet (c:UInt8):Bool:=decide (97≤c.toNat∧c.toNat≤122)
def isNm (c:UInt8):Bool:=isLet c||isDig c||c==95
def part (l:List UInt8) (a e:Nat):List UInt8:=(l.drop a).take (e - a)
def ones:List UInt8:=[40,41,91,93,123,125,44,58,46,63,43,45,42,47,37,33,60]
end
section
open Go
/-- a value: its kind, number, float (as bits), text, names, items -/
inductive VT where
 | mk (kind num:Int) (flt:Nat) (str:List UInt8) (names:List (List UInt8)) (items:List VT)
def VT.kind:VT→Int|.mk k _ _ _ _ _=>k
def VT.num:VT→Int|.mk _ n _ _ _ _=>n
def VT.flt:VT→Nat|.mk _ _ f _ _ _=>f
def VT.str:VT→List UInt8|.mk _ _ _ s _ _=>s
def VT.names:VT→List (List UInt8)|.mk _ _ _ _ ns _=>ns
def VT.items:VT→List VT|.mk _ _ _ _ _ its=>its
mutual
/-- parts, counted on from n, while there are fewer than 500 -/
def countV:VT→Nat→Nat
 | .mk _ _ _ _ _ its,n=>countL its (n+1)
def countL:List VT→Nat→Nat
 | [],n=>n
 | x::xs,n=>if 500≤n then n else countL xs (countV x n)
end
mutual
theorem countV_le:∀ (v:VT) (n:Nat),n<500→countV v n≤500∧n<countV v n
 | .mk _ _ _ _ _ its,n,h=>by
  have:=countL_le its (n+1) (by omega);rw[countV];omega
theorem countL_le:∀ (l:List VT) (n:Nat),n≤500→countL l n≤500∧n≤countL l n
 | [],n,h=>by rw[countL];omega
 | x::xs,n,h=>by
  rw[countL];by_cases hn:500≤n
  ·rw[if_pos hn];omega
  ·rw[if_neg hn];have h1:=countV_le x n (by omega);have h2:=countL_le xs (countV x n) h1.1;omega
end
/-- what may be a name -/
def nmB (l:List UInt8):Bool:=decide (1≤l.length∧l.length≤30)&&isLet (l.getD 0 0)&&l.all isNm
/-- names, each behind the one before it -/
def risesB:List (List UInt8)→Bool
 | []=>true
 | [a]=>nmB a
 | a::b::l=>nmB a&&Op.bytesLess a b&&risesB (b::l)
def zeroB (f:Nat):Bool:=decide (canon f=0)
mutual
/-- right, within so many -/
def rightV:VT→Nat→Bool
 | .mk k n f s ns its,far =>
  if far<1 then false
  else if k=1 then its.isEmpty&&ns.isEmpty&&zeroB f&&s.isEmpty&&decide (n=0∨n=1)
  else if k=2 then its.isEmpty&&ns.isEmpty&&zeroB f&&s.isEmpty
  else if k=3 then its.isEmpty&&ns.isEmpty&&decide (n=0)&&s.isEmpty
  else if k=4 then its.isEmpty&&ns.isEmpty&&zeroB f&&decide (n=0)&&decide (s.length≤200)
  else if k=5 then zeroB f&&decide (n=0)&&s.isEmpty&&ns.isEmpty&&rightL its (far - 1)
  else if k=6 then zeroB f&&decide (n=0)&&s.isEmpty&&(risesB ns&&decide (ns.length=its.length))&&rightL its (far - 1)
  else false
def rightL:List VT→Nat→Bool
 | [],_=>true
 | x::xs,far=>rightV x far&&rightL xs far
end
/-- a right value -/
def rightB (v:VT):Bool:=decide (countV v 0≤200)&&rightV v 12
/-- a number's bytes: seven bits each, the last ones first -/
def uintB:Nat→Nat→List UInt8
 | 0,_=>[]
 | f+1,n=>if n<128 then [UInt8.ofNat n] else UInt8.ofNat (n % 128+128)::uintB f (n / 128)
def uintS (n:Nat):List UInt8:=uintB 10 n
def zig (n:Int):Nat:=if n<0 then(-1 - n).toNat*2+1 else n.toNat*2
def strE (s:List UInt8):List UInt8:=uintS s.length++s
def fltE (b:Nat):List UInt8:=[56,48,40,32,24,16,8,0].map fun i=>UInt8.ofNat (b / 2 ^ i % 256)
mutual
/-- a right value's bytes -/
def encV:VT→List UInt8
 | .mk k n f s ns its =>
  UInt8.ofNat k.toNat::(if k=1 then [UInt8.ofNat n.toNat] else if k=2 then uintS (zig n) else if k=3 then fltE (canon f) else if k=4 then strE s
   else uintS its.length++encL (k=6) ns its)
def encL:Bool→List (List UInt8)→List VT→List UInt8
 | _,_,[]=>[]
 | named,ns,x::xs=>(if named then strE (ns.headD []) else [])++(encV x++encL named ns.tail xs)
end
end
section
open Go.RowKit
def Strs (w:World) (l:List (List UInt8)) (v:Value):Prop :=
 l.length≤140737488355328∧(∀ s ∈ l,s.length≤140737488355328) ∧
 ((l=[]∧∃ p c,v=.slice p 0 c)∨∃ g off cap,v=.slice (some ⟨g,off,none⟩) l.length cap∧g<w.heap.size∧∀ i,i<l.length→w.cell? ⟨g,off+i,none⟩=some (.string ⟨(l.getD i []).toArray⟩))
def noVT:VT:=.mk 0 0 0 [] [] []
/-- the cells of a value, so many deep -/
def ValAt (w:World):Nat→VT→Array Value→Prop
 | 0,_,_=>False
 | d+1,v,cs=>∃ pn pi,cs=#[.int .i64 v.kind,.int .i64 v.num,.float .f64 v.flt,.string ⟨v.str.toArray⟩,pn,pi] ∧
   (-9223372036854775808≤v.kind∧v.kind≤9223372036854775807)∧(-9223372036854775808≤v.num∧v.num≤9223372036854775807)∧F64 v.flt∧v.str.length≤140737488355328∧Strs w v.names pn∧v.items.length≤140737488355328 ∧
   ((v.items=[]∧∃ p c,pi=.slice p 0 c)∨∃ g off cap,pi=.slice (some ⟨g,off,none⟩) v.items.length cap∧g<w.heap.size ∧
    ∀ i,i<v.items.length→∃ ds,ValAt w d (v.items.getD i noVT) ds∧∀ j,j<6→w.cell? ⟨g,off+i*6+j,none⟩=ds[j]?)
theorem Strs.kept {w w':World} {l:List (List UInt8)} {v:Value} (h:Strs w l v) (hb:Below w.heap.size w w'):Strs w' l v:=by
 obtain⟨h1,h2,h|⟨g,off,cap,h3,h4,h5⟩⟩:=h
 ·exact⟨h1,h2,.inl h⟩
 ·exact⟨h1,h2,.inr ⟨g,off,cap,h3,Nat.lt_of_lt_of_le h4 hb.size,fun i hi=>(hb.cell (p:=⟨g,off+i,none⟩) h4).trans (h5 i hi)⟩⟩
theorem ValAt.kept {w w':World} (hb:Below w.heap.size w w'):∀ (d:Nat) (v:VT) (cs:Array Value),ValAt w d v cs→ValAt w' d v cs
 | 0,_,_,h=>h
 | d+1,v,cs,h=>by
  obtain⟨pn,pi,h1,h2,h3,h4,h5,h6,h7,h8⟩:=h;refine⟨pn,pi,h1,h2,h3,h4,h5,h6.kept hb,h7,?_⟩;rcases h8 with h8|⟨g,off,cap,a1,a2,a3⟩
  ·exact .inl h8
  ·refine .inr ⟨g,off,cap,a1,Nat.lt_of_lt_of_le a2 hb.size,fun i hi=>?_⟩;obtain⟨ds,b1,b2⟩:=a3 i hi;exact⟨ds,ValAt.kept hb d _ ds b1,fun j hj=>(hb.cell (p:=⟨g,off+i*6+j,none⟩) a2).trans (b2 j hj)⟩
theorem ValAt.more {w:World}:∀ (d:Nat) (v:VT) (cs:Array Value),ValAt w d v cs→ValAt w (d+1) v cs
 | 0,_,_,h=>h.elim
 | d+1,v,cs,h=>by
  obtain⟨pn,pi,h1,h2,h3,h4,h5,h6,h7,h8⟩:=h;refine⟨pn,pi,h1,h2,h3,h4,h5,h6,h7,?_⟩;rcases h8 with h8|⟨g,off,cap,a1,a2,a3⟩
  ·exact .inl h8
  ·refine .inr ⟨g,off,cap,a1,a2,fun i hi=>?_⟩;obtain⟨ds,b1,b2⟩:=a3 i hi;exact⟨ds,ValAt.more d _ ds b1,b2⟩
end
section
open Go
/-- a number read, with so many bytes at most still to come -/
def rdUF:Nat→List UInt8→Option (Nat × List UInt8)
 | 0,_=>none
 | _+1,[]=>none
 | f+1,b::l=>if (f=0∧1<b.toNat)∨(f<9∧b.toNat=0) then none else if b.toNat<128 then some (b.toNat,l) else
   match rdUF f l with
   | none=>none
   | some r=>some (b.toNat % 128+128*r.1,r.2)
def rdU (l:List UInt8):Option (Nat × List UInt8):=rdUF 10 l
theorem uintB_len:∀ (f n:Nat),(uintB f n).length≤f
 | 0,_=>by simp[uintB]
 | f+1,n=>by
  rw[uintB];split
  ·simp
  ·have:=uintB_len f (n / 128);simp;omega
theorem uintS_len (n:Nat):(uintS n).length≤10:=uintB_len 10 n
/-- what fuel f can write -/
theorem rdUF_enc:∀ (f n:Nat) (r:List UInt8),f≤9→n<2*128 ^ f→(f<9→0<n)→rdUF (f+1) (uintB (f+1) n++r)=some (n,r)
 | f,n,r,hf,hn,h0=>by
  rw[uintB];by_cases h1:n<128
  ·rw[if_pos h1,List.singleton_append,rdUF];have e:(UInt8.ofNat n).toNat=n:=by simp[UInt8.toNat_ofNat'];omega
   rw[e,if_neg,if_pos h1];rintro(⟨h2,h3⟩|⟨h2,h3⟩)
   ·subst h2;simp at hn;omega
   ·have:=h0 h2;omega
  ·rw[if_neg h1];have e:(UInt8.ofNat (n % 128+128)).toNat=n % 128+128:=by simp[UInt8.toNat_ofNat'];omega
   match f with
   | 0=>simp at hn;omega
   | f+1 =>
    have ih:=rdUF_enc f (n / 128) r (by omega) (by rw[Nat.pow_succ]at hn;omega) (fun _=>by omega);rw[List.cons_append,rdUF,e,if_neg (by omega),if_neg (by omega),ih];simp only[Option.some.injEq,Prod.mk.injEq,and_true];omega
theorem rdU_enc {n:Nat} (r:List UInt8) (h:n<18446744073709551616):rdU (uintS n++r)=some (n,r) :=
 rdUF_enc 9 n r (by omega) (by simpa using h) (fun h=>by omega)
theorem rdUF_dec:∀ (f:Nat) (l:List UInt8) (n:Nat) (r:List UInt8),f≤9→rdUF (f+1) l=some (n,r)→l=uintB (f+1) n++r∧n<2*128 ^ f∧(f<9→0<n)
 | f,[],n,r,_,h=>by rw[rdUF]at h;cases h
 | f,b::l,n,r,hf,h=>by
  rw[rdUF]at h;have hb:b.toNat<256:=b.toNat_lt;split at h
  ·cases h
  ·rename_i h1;split at h
   ·rename_i h2;simp only[Option.some.injEq,Prod.mk.injEq]at h;obtain⟨rfl,rfl⟩:=h;refine⟨?_,?_,fun h3=>?_⟩
    ·rw[uintB,if_pos h2];simp
    ·have hp:1≤128 ^ f:=Nat.one_le_pow _ _ (by omega);match f with
     | 0=>simp;omega
     | f+1 =>
      have:1≤128 ^ f:=Nat.one_le_pow _ _ (by omega);rw[Nat.pow_succ];omega
    ·omega
   ·rename_i h2;match f,h with
    | 0,h=>exact absurd (Or.inl ⟨rfl,by omega⟩) h1
    | f+1,h =>
     split at h
     ·cases h
     ·rename_i q hq;obtain⟨m,r'⟩:=q;simp only[Option.some.injEq,Prod.mk.injEq]at h;obtain⟨rfl,rfl⟩:=h;obtain⟨h3,h4,h5⟩:=rdUF_dec f l m r' (by omega) hq;have h5:=h5 (by omega);refine⟨?_,?_,fun _=>by omega⟩
      ·rw[uintB,if_neg (by omega),h3,List.cons_append];congr 1
       ·rw[←UInt8.toNat_inj];simp[UInt8.toNat_ofNat'];omega
       ·rw[show(b.toNat % 128+128*m) / 128=m by omega]
      ·rw[Nat.pow_succ];omega
theorem rdU_dec {l:List UInt8} {n:Nat} {r:List UInt8} (h:rdU l=some (n,r)):l=uintS n++r∧n<18446744073709551616:=by
 obtain⟨h1,h2,_⟩:=rdUF_dec 9 l n r (by omega) h;exact⟨h1,by simpa using h2⟩
end
section
open Go
def zag (n:Nat):Int:=if n % 2=1 then -1 - ((n / 2:Nat):Int) else((n / 2:Nat):Int)
def beN (l:List UInt8):Nat:=l.foldl (fun a c=>a*256+c.toNat) 0
def rdStr (most:Nat) (l:List UInt8):Option (List UInt8 × List UInt8) :=
 match rdU l with
 | none=>none
 | some r=>if most<r.1∨r.2.length<r.1 then none else some (r.2.take r.1,r.2.drop r.1)
def rdInt (l:List UInt8):Option (Int × List UInt8) :=
 match rdU l with
 | none=>none
 | some r=>some (zag r.1,r.2)
def rdFlt (l:List UInt8):Option (Nat × List UInt8) :=
 if l.length<8 then none else if canon (beN (l.take 8))=beN (l.take 8) then some (beN (l.take 8),l.drop 8) else none
def rdBool:List UInt8→Option (Int × List UInt8)
 | []=>none
 | b::l=>if b.toNat≤1 then some ((b.toNat:Int),l) else none
/-- names and items, so many -/
def rdItems (rv:Nat→List UInt8→Option (VT × Nat × List UInt8)) (named:Bool):Nat→Nat→List UInt8→Option (List (List UInt8) × List VT × Nat × List UInt8)
 | 0,p,l=>some ([],[],p,l)
 | n+1,p,l =>
  match (if named then rdStr 30 l else some ([],l)) with
  | none=>none
  | some a =>
   match rv p a.2 with
   | none=>none
   | some b =>
    match rdItems rv named n b.2.1 b.2.2 with
    | none=>none
    | some c=>some (if named then a.1::c.1 else c.1,b.1::c.2.1,c.2.2)
/-- a value, so many deep at most, p parts begun -/
def rdV:Nat→Nat→List UInt8→Option (VT × Nat × List UInt8)
 | 0,_,_=>none
 | f+1,p,l =>
  if 200≤p then none else
   match l with
   | []=>none
   | k::l =>
    if k.toNat=1 then(match rdBool l with|none=>none|some r=>some (.mk 1 r.1 0 [] [] [],p+1,r.2))
    else if k.toNat=2 then(match rdInt l with|none=>none|some r=>some (.mk 2 r.1 0 [] [] [],p+1,r.2))
    else if k.toNat=3 then(match rdFlt l with|none=>none|some r=>some (.mk 3 0 r.1 [] [] [],p+1,r.2))
    else if k.toNat=4 then(match rdStr 200 l with|none=>none|some r=>some (.mk 4 0 0 r.1 [] [],p+1,r.2))
    else if k.toNat=5∨k.toNat=6 then
     match rdU l with
     | none=>none
     | some r=>if 200<r.1 then none else
       match rdItems (rdV f) (decide (k.toNat=6)) r.1 (p+1) r.2 with
       | none=>none
       | some c=>some (.mk (k.toNat:Nat) 0 0 [] c.1 c.2.1,c.2.2)
    else none
/-- a right value -/
def rdVal (l:List UInt8):Option (VT × List UInt8) :=
 match rdV 12 0 l with
 | none=>none
 | some r=>if rightB r.1 then some (r.1,r.2.2) else none
mutual
def psz:VT→Nat
 | .mk _ _ _ _ _ its=>pszL its+1
def pszL:List VT→Nat
 | []=>0
 | x::xs=>psz x+pszL xs
end
mutual
def canV:VT→VT
 | .mk k n f s ns its=>.mk k n (canon f) s ns (canL its)
def canL:List VT→List VT
 | []=>[]
 | x::xs=>canV x::canL xs
end
mutual
/-- whose numbers are within their bounds -/
def inV:VT→Prop
 | .mk k n f _ _ its=>(-9223372036854775808≤k∧k≤9223372036854775807)∧(-9223372036854775808≤n∧n≤9223372036854775807)∧f<18446744073709551616∧inL its
def inL:List VT→Prop
 | []=>True
 | x::xs=>inV x∧inL xs
end
theorem canL_length:∀ l:List VT,(canL l).length=l.length
 | []=>rfl
 | x::xs=>by rw[canL,List.length_cons,canL_length xs,List.length_cons]
theorem pszL_ge:∀ l:List VT,l.length≤pszL l
 | []=>Nat.zero_le _
 | .mk _ _ _ _ _ _::xs=>by
  have:=pszL_ge xs;rw[pszL,psz,List.length_cons];omega
mutual
theorem countV_psz:∀ (v:VT) (n:Nat),n<500→countV v n=min 500 (n+psz v)
 | .mk _ _ _ _ _ its,n,h=>by
  have:=countL_psz its (n+1) (by omega);rw[countV,psz,this];congr 1;omega
theorem countL_psz:∀ (l:List VT) (n:Nat),n≤500→countL l n=min 500 (n+pszL l)
 | [],n,h=>by rw[countL,pszL];omega
 | x::xs,n,h=>by
  rw[countL,pszL];by_cases hn:500≤n
  ·rw[if_pos hn];omega
  ·rw[if_neg hn];have h1:=countV_psz x n (by omega);have h2:=countL_psz xs (countV x n) (by omega);rw[h2,h1];omega
end
theorem rightB_iff (v:VT):rightB v=true↔psz v≤200∧rightV v 12=true:=by
 unfold rightB;rw[Bool.and_eq_true,decide_eq_true_eq,countV_psz v 0 (by omega)];constructor
 ·rintro⟨h1,h2⟩;exact⟨by omega,h2⟩
 ·rintro⟨h1,h2⟩;exact⟨by omega,h2⟩
theorem zig_zag (n:Nat):zig (zag n)=n:=by
 unfold zig zag;split
 ·rw[if_pos (by omega)];omega
 ·rw[if_neg (by omega)];omega
theorem zag_zig (n:Int):zag (zig n)=n:=by
 unfold zig zag;split
 ·rw[if_pos (by omega)];omega
 ·rw[if_neg (by omega)];omega
theorem zag_in {n:Nat} (h:n<18446744073709551616) : -9223372036854775808≤zag n∧zag n≤9223372036854775807:=by
 unfold zag;split<;>omega
theorem zig_lt {n:Int} (h : -9223372036854775808≤n∧n≤9223372036854775807):zig n<18446744073709551616:=by
 unfold zig;split<;>omega
theorem beN_snoc (l:List UInt8) (c:UInt8):beN (l++[c])=beN l*256+c.toNat:=by
 unfold beN;rw[List.foldl_append];rfl
theorem u8_nat (n:Nat):(UInt8.ofNat (n % 256)).toNat=n % 256:=by simp[UInt8.toNat_ofNat']
theorem beN_fltE (b:Nat) (h:b<18446744073709551616):beN (fltE b)=b:=by
 show((((((((0*256+(UInt8.ofNat (b / 2 ^ 56 % 256)).toNat)*256+(UInt8.ofNat (b / 2 ^ 48 % 256)).toNat)*256+(UInt8.ofNat (b / 2 ^ 40 % 256)).toNat)*256+(UInt8.ofNat (b / 2 ^ 32 % 256)).toNat)*256+(UInt8.ofNat (b / 2 ^ 24 % 256)).toNat)*256+(UInt8.ofNat (b / 2 ^ 16 % 256)).toNat)*256+(UInt8.ofNat (b / 2 ^ 8 % 256)).toNat)*256+(UInt8.ofNat (b / 2 ^ 0 % 256)).toNat)=b;simp only[u8_nat];omega
theorem u8_of {c:UInt8} {n:Nat} (h:n=c.toNat):UInt8.ofNat n=c:=by rw[h];simp
theorem fltE_beN:∀ l:List UInt8,l.length=8→fltE (beN l)=l
 | [a,b,c,d,e,f,g,h],_=>by
  have ha:=a.toNat_lt;have hb:=b.toNat_lt;have hc:=c.toNat_lt;have hd:=d.toNat_lt;have he:=e.toNat_lt;have hf:=f.toNat_lt;have hg:=g.toNat_lt;have hh:=h.toNat_lt;have hN:beN [a,b,c,d,e,f,g,h]=(((((((a.toNat*256+b.toNat)*256+c.toNat)*256+d.toNat)*256+e.toNat)*256+f.toNat)*256+g.toNat)*256+h.toNat):=by
   show(((((((0*256+a.toNat)*256+b.toNat)*256+c.toNat)*256+d.toNat)*256+e.toNat)*256+f.toNat)*256+g.toNat)*256+h.toNat=_;omega
  rw[hN];simp only[fltE,List.map_cons,List.map_nil];rw[u8_of (c:=a) (by omega),u8_of (c:=b) (by omega),u8_of (c:=c) (by omega),u8_of (c:=d) (by omega),u8_of (c:=e) (by omega),u8_of (c:=f) (by omega),u8_of (c:=g) (by omega),u8_of (c:=h) (by omega)]
theorem beN_lt:∀ l:List UInt8,l.length=8→beN l<18446744073709551616
 | [a,b,c,d,e,f,g,h],_=>by
  have ha:=a.toNat_lt;have hb:=b.toNat_lt;have hc:=c.toNat_lt;have hd:=d.toNat_lt;have he:=e.toNat_lt;have hf:=f.toNat_lt;have hg:=g.toNat_lt;have hh:=h.toNat_lt;show(((((((0*256+a.toNat)*256+b.toNat)*256+c.toNat)*256+d.toNat)*256+e.toNat)*256+f.toNat)*256+g.toNat)*256+h.toNat<_;omega
theorem canon_zero {f:Nat} (h:canon f=0):f=0:=by
 unfold canon at h;split at h
 ·exact absurd h (by decide)
 ·exact h
theorem rdStr_enc {most:Nat} (s r:List UInt8) (h:s.length≤most) (hm:s.length<18446744073709551616):rdStr most (strE s++r)=some (s,r):=by
 unfold rdStr strE;rw[List.append_assoc,rdU_enc _ hm];simp only[List.length_append];rw[if_neg (by omega),List.take_left' rfl,List.drop_left' rfl]
theorem rdStr_dec {most:Nat} {l s r:List UInt8} (h:rdStr most l=some (s,r)):l=strE s++r∧s.length≤most:=by
 unfold rdStr at h;split at h
 ·cases h
 ·rename_i q hq;obtain⟨n,t⟩:=q;dsimp only at h;split at h
  ·cases h
  ·rename_i h1;simp only[Option.some.injEq,Prod.mk.injEq]at h;obtain⟨rfl,rfl⟩:=h;obtain⟨h2,_⟩:=rdU_dec hq;have h3:(t.take n).length=n:=by rw[List.length_take];omega
   refine⟨?_,by omega⟩;unfold strE;rw[h3,List.append_assoc,List.take_append_drop,h2]
theorem nmB_len {s:List UInt8} (h:nmB s=true):s.length≤30:=by
 unfold nmB at h;rw[Bool.and_eq_true,Bool.and_eq_true,decide_eq_true_eq]at h;exact h.1.1.2
theorem rises_len:∀ {l:List (List UInt8)},risesB l=true→∀ s ∈ l,s.length≤30
 | [],_,s,hs=>by cases hs
 | [a],h,s,hs=>by
  rw[risesB]at h;simp only[List.mem_singleton]at hs;subst hs;exact nmB_len h
 | a::b::l,h,s,hs=>by
  rw[risesB,Bool.and_eq_true,Bool.and_eq_true]at h;rcases List.mem_cons.1 hs with rfl|hs
  ·exact nmB_len h.1.1
  ·exact rises_len h.2 s hs
end
section
open Go
def sgnI (a b:Int):Int:=if a<b then -1 else if b<a then 1 else 0
def txtO (a b:List UInt8):Int:=if Op.bytesLess a b=true then -1 else if a=b then 0 else 1
def rowsO:List (List UInt8)→List (List UInt8)→Int
 | a::us,b::vs=>if txtO a b=0 then rowsO us vs else txtO a b
 | [],vs=>sgnI 0 vs.length
 | a::us,[]=>sgnI (a::us).length 0
mutual
/-- the order of two values -/
def ordV:VT→VT→Int
 | .mk k n f s ns its,.mk k' n' f' s' ns' its' =>
  if k=k' then
   if k=1∨k=2 then sgnI n n' else if k=3 then ordB f f' else if k=4 then txtO s s'
   else if k=5 then ordL its its'
   else if k=6 then(if rowsO ns ns'=0 then ordL its its' else rowsO ns ns')
   else if sgnI n n'=0 then(if txtO s s'=0 then(if rowsO ns ns'=0 then ordL its its' else rowsO ns ns') else txtO s s') else sgnI n n'
  else sgnI k k'
def ordL:List VT→List VT→Int
 | [],vs=>sgnI 0 vs.length
 | a::us,[]=>sgnI (a::us).length 0
 | a::us,b::vs=>if ordV a b=0 then ordL us vs else ordV a b
end
theorem ordV_ne {a b:VT} (h:a.kind≠b.kind):ordV a b=sgnI a.kind b.kind:=by
 obtain⟨k,n,f,s,ns,its⟩:=a;obtain⟨k',n',f',s',ns',its'⟩:=b;have h:k≠k':=h;rw[ordV,if_neg h];rfl
theorem ordV_n {a b:VT} (h:a.kind=b.kind) (hk:a.kind=1∨a.kind=2):ordV a b=sgnI a.num b.num:=by
 obtain⟨k,n,f,s,ns,its⟩:=a;obtain⟨k',n',f',s',ns',its'⟩:=b;have h:k=k':=h;have hk:k=1∨k=2:=hk;rw[ordV,if_pos h,if_pos hk];rfl
theorem ordV_f {a b:VT} (h:a.kind=b.kind) (hk:a.kind=3):ordV a b=ordB a.flt b.flt:=by
 obtain⟨k,n,f,s,ns,its⟩:=a;obtain⟨k',n',f',s',ns',its'⟩:=b;have h:k=k':=h;have hk:k=3:=hk;rw[ordV,if_pos h,if_neg (by omega),if_pos hk];rfl
theorem ordV_s {a b:VT} (h:a.kind=b.kind) (hk:a.kind=4):ordV a b=txtO a.str b.str:=by
 obtain⟨k,n,f,s,ns,its⟩:=a;obtain⟨k',n',f',s',ns',its'⟩:=b;have h:k=k':=h;have hk:k=4:=hk;rw[ordV,if_pos h,if_neg (by omega),if_neg (by omega),if_pos hk];rfl
theorem ordV_5 {a b:VT} (h:a.kind=b.kind) (hk:a.kind=5):ordV a b=ordL a.items b.items:=by
 obtain⟨k,n,f,s,ns,its⟩:=a;obtain⟨k',n',f',s',ns',its'⟩:=b;have h:k=k':=h;have hk:k=5:=hk;rw[ordV,if_pos h,if_neg (by omega),if_neg (by omega),if_neg (by omega),if_pos hk];rfl
theorem ordV_6 {a b:VT} (h:a.kind=b.kind) (hk:a.kind=6):ordV a b=if rowsO a.names b.names=0 then ordL a.items b.items else rowsO a.names b.names:=by
 obtain⟨k,n,f,s,ns,its⟩:=a;obtain⟨k',n',f',s',ns',its'⟩:=b;have h:k=k':=h;have hk:k=6:=hk;rw[ordV,if_pos h,if_neg (by omega),if_neg (by omega),if_neg (by omega),if_neg (by omega),if_pos hk];rfl
theorem ordV_x {a b:VT} (h:a.kind=b.kind) (h1:a.kind≠1) (h2:a.kind≠2) (h3:a.kind≠3) (h4:a.kind≠4) (h5:a.kind≠5) (h6:a.kind≠6) :
  ordV a b=if sgnI a.num b.num=0 then(if txtO a.str b.str=0 then(if rowsO a.names b.names=0 then ordL a.items b.items else rowsO a.names b.names) else txtO a.str b.str) else sgnI a.num b.num:=by
 obtain⟨k,n,f,s,ns,its⟩:=a;obtain⟨k',n',f',s',ns',its'⟩:=b;have h:k=k':=h;have h1:k≠1:=h1;have h2:k≠2:=h2;have h3:k≠3:=h3;have h4:k≠4:=h4;have h5:k≠5:=h5;have h6:k≠6:=h6;rw[ordV,if_pos h,if_neg (by omega),if_neg h3,if_neg h4,if_neg h5,if_neg h6];rfl
/-- what is found ahead of the names, and ahead of the items -/
def preO (a b:VT):Int:=if a.kind=5∨a.kind=6 then 0 else if sgnI a.num b.num=0 then txtO a.str b.str else sgnI a.num b.num
def headO (a b:VT):Int:=if preO a b=0∧a.kind≠5 then rowsO a.names b.names else preO a b
theorem preO_l {a b:VT} (h:a.kind=5∨a.kind=6):preO a b=0:=by unfold preO;rw[if_pos h]
theorem preO_n {a b:VT} (h5:a.kind≠5) (h6:a.kind≠6) (h:sgnI a.num b.num≠0):preO a b=sgnI a.num b.num:=by unfold preO;rw[if_neg (by omega),if_neg h]
theorem preO_s {a b:VT} (h5:a.kind≠5) (h6:a.kind≠6) (h:sgnI a.num b.num=0):preO a b=txtO a.str b.str:=by unfold preO;rw[if_neg (by omega),if_pos h]
theorem headO_r {a b:VT} (h:preO a b=0) (h5:a.kind≠5):headO a b=rowsO a.names b.names:=by unfold headO;rw[if_pos ⟨h,h5⟩]
theorem headO_5 {a b:VT} (h5:a.kind=5):headO a b=preO a b:=by unfold headO;rw[if_neg (fun h=>h.2 h5)]
theorem headO_p {a b:VT} (h:preO a b≠0):headO a b=preO a b:=by unfold headO;rw[if_neg (fun k=>h k.1)]
theorem ordV_gen {a b:VT} (h:a.kind=b.kind) (h1:a.kind≠1) (h2:a.kind≠2) (h3:a.kind≠3) (h4:a.kind≠4):ordV a b=if headO a b=0 then ordL a.items b.items else headO a b:=by
 by_cases h5:a.kind=5
 ·rw[ordV_5 h h5,headO_5 h5,preO_l (.inl h5),if_pos rfl]
 ·by_cases h6:a.kind=6
  ·rw[ordV_6 h h6,headO_r (preO_l (.inr h6)) h5]
  ·rw[ordV_x h h1 h2 h3 h4 h5 h6];by_cases hn:sgnI a.num b.num=0
   ·rw[if_pos hn];by_cases hs:txtO a.str b.str=0
    ·rw[if_pos hs,headO_r (by rw[preO_s h5 h6 hn,hs]) h5]
    ·rw[if_neg hs,headO_p (by rw[preO_s h5 h6 hn];exact hs),preO_s h5 h6 hn,if_neg hs]
   ·rw[if_neg hn,headO_p (by rw[preO_n h5 h6 hn];exact hn),preO_n h5 h6 hn,if_neg hn]
theorem ordL_step {a b:List VT} {i:Nat} (hi:i<a.length) (hj:i<b.length):ordL (a.drop i) (b.drop i)=if ordV (a.getD i noVT) (b.getD i noVT)=0 then ordL (a.drop (i+1)) (b.drop (i+1)) else ordV (a.getD i noVT) (b.getD i noVT):=by
 rw[List.drop_eq_getElem_cons hi,List.drop_eq_getElem_cons hj,ordL];simp[List.getD,hi,hj]
theorem sgnI_sub (n m i:Nat) (h1:i≤n) (h2:i≤m):sgnI ((n - i:Nat):Int) ((m - i:Nat):Int)=sgnI (n:Int) (m:Int):=by
 unfold sgnI;repeat' split
 all_goals omega
theorem ordL_end {a b:List VT} {i:Nat} (h1:i≤a.length) (h2:i≤b.length) (h:a.length≤i∨b.length≤i):ordL (a.drop i) (b.drop i)=sgnI (a.length:Int) (b.length:Int):=by
 rw[←sgnI_sub _ _ i h1 h2,←List.length_drop,←List.length_drop];generalize ha:a.drop i=x;generalize hb:b.drop i=y;cases x with
 | nil=>rw[ordL];rfl
 | cons u us =>
  cases y with
  | nil=>rw[ordL];rfl
  | cons v vs =>
   have l1:=congrArg List.length ha;have l2:=congrArg List.length hb;simp at l1 l2;omega
theorem rowsO_step {a b:List (List UInt8)} {i:Nat} (hi:i<a.length) (hj:i<b.length):rowsO (a.drop i) (b.drop i)=if txtO (a.getD i []) (b.getD i [])=0 then rowsO (a.drop (i+1)) (b.drop (i+1)) else txtO (a.getD i []) (b.getD i []):=by
 rw[List.drop_eq_getElem_cons hi,List.drop_eq_getElem_cons hj,rowsO];simp[List.getD,hi,hj]
theorem rowsO_end {a b:List (List UInt8)} {i:Nat} (h1:i≤a.length) (h2:i≤b.length) (h:a.length≤i∨b.length≤i):rowsO (a.drop i) (b.drop i)=sgnI (a.length:Int) (b.length:Int):=by
 rw[←sgnI_sub _ _ i h1 h2,←List.length_drop,←List.length_drop];generalize ha:a.drop i=x;generalize hb:b.drop i=y;cases x with
 | nil=>rw[rowsO];rfl
 | cons u us =>
  cases y with
  | nil=>rw[rowsO];rfl
  | cons v vs =>
   have l1:=congrArg List.length ha;have l2:=congrArg List.length hb;simp at l1 l2;omega
theorem less_self':∀ l:List UInt8,Op.bytesLess l l=false
 | []=>rfl
 | x::l=>by
  rw[Op.bytesLess];simp[less_self' l]
theorem txtO_self (l:List UInt8):txtO l l=0:=by
 unfold txtO;rw[less_self',if_neg (by decide),if_pos rfl]
theorem sgnI_self (n:Int):sgnI n n=0:=by
 unfold sgnI;simp
theorem rowsO_self:∀ l:List (List UInt8),rowsO l l=0
 | []=>rfl
 | x::l=>by rw[rowsO,txtO_self,if_pos rfl,rowsO_self l]
end
section
open Go.RowKit
theorem ord_eq (a b:Nat):(FloatKind.f64.format.order a b==some .eq)=Fl.feq a b:=Fl.order_eq a b
theorem ord_ne (a b:Nat):(FloatKind.f64.format.order a b != some .eq)=!Fl.feq a b:=by rw[←Fl.order_eq a b];rfl
theorem ord_lt (a b:Nat):(FloatKind.f64.format.order a b==some .lt)=Fl.flt a b:=Fl.order_lt a b
theorem ord_gt (a b:Nat):(FloatKind.f64.format.order a b==some .gt)=Fl.flt b a:=Fl.order_gt a b
theorem feq_self (a:Nat):Fl.feq a a=!Fl.isNaN a:=by unfold Fl.feq;simp
theorem ret_val {a b:Value} (h:a=b):Ending.returned a=.returned b:=by rw[h]
theorem bits_run (b:Nat) (w:World):(callFunc 100 #[.float .f64 b]).run Tryz.prog w=.ok (.value (.int .u64 b)) w :=
 run_callFunc_extern Tryz.func100 (by kernel_rfl) (by kernel_rfl) (by kernel_rfl) (e:=Extern.MathFloatBits.float64bits) (by kernel_rfl) _ w
theorem frombits_run (n:Int) (w:World):(callFunc 133 #[.int .u64 n]).run Tryz.prog w=.ok (.value (.float .f64 n.toNat)) w :=
 run_callFunc_extern Tryz.func133 (by kernel_rfl) (by kernel_rfl) (by kernel_rfl) (e:=Extern.MathFloatBits.float64frombits) (by kernel_rfl) _ w
theorem canon_any (b:Nat) (w:World):Calls Tryz.prog 101 #[.float .f64 b] w fun e w'=>e=.returned (.float .f64 (canon b))∧w=w':=by
 have h1:=ord_ne b b;rw[feq_self]at h1;have hf:=frombits_run;cases hn:Fl.isNaN b
 ·rw[hn]at h1;have hc:canon b=b:=by simp[canon,hn]
  have HC:=zh hc;clear hc;go_in;go_wp2
  go_ret;exact⟨ret_val (by rw[HC.out];rfl),rfl⟩
 ·rw[hn]at h1;have hc:canon b=cnan:=by simp[canon,hn]
  have HC:=zh hc;clear hc;go_in;go_wp2
  go_ret;exact⟨ret_val (by rw[HC.out];rfl),rfl⟩
theorem rnan_any (b:Nat) (w:World):Calls Tryz.prog 159 #[.float .f64 b] w fun e w'=>e=.returned (.bool (Fl.isNaN b))∧w=w':=by
 have hf:=bits_run;go_in;go_wp2
 go_ret;exact⟨ret_val (by rw[←nan_bits b];rfl),rfl⟩
theorem rcanon_any (b:Nat) (w:World):Calls Tryz.prog 121 #[.float .f64 b] w fun e w'=>e=.returned (.float .f64 (canon b))∧w=w':=by
 have hf:=frombits_run;cases hn:Fl.isNaN b
 ·have hc:canon b=b:=by simp[canon,hn]
  have HC:=zh hc;clear hc;go_in;go_wp2_with (go_at_call 159;refine(rnan_any _ _).mono ?_;rintro e w' ⟨rfl,rfl⟩)
  go_ret;exact⟨ret_val (by rw[HC.out];rfl),rfl⟩
 ·have hc:canon b=cnan:=by simp[canon,hn]
  have HC:=zh hc;clear hc;go_in;go_wp2_with (go_at_call 159;refine(rnan_any _ _).mono ?_;rintro e w' ⟨rfl,rfl⟩)
  go_ret;exact⟨ret_val (by rw[HC.out];rfl),rfl⟩
theorem rsame_any (a b:Nat) (w:World):Calls Tryz.prog 184 #[.float .f64 a,.float .f64 b] w fun e w'=>e=.returned (.bool (decide (canon a=canon b)))∧w=w':=by
 have hf:=bits_run;go_in;go_wp2_with (go_at_call 121;refine(rcanon_any _ _).mono ?_;rintro e w' ⟨rfl,rfl⟩)
 go_ret;exact⟨ret_val (by show Value.bool ((canon a:Int)==(canon b:Int))=_;congr 1;rw[Bool.eq_iff_iff];simp;omega),rfl⟩
theorem rkey_any (b:Nat) (hb:F64 b) (w:World):Calls Tryz.prog 128 #[.float .f64 b] w fun e w'=>e=.returned (.int .i64 (keyB b))∧w=w':=by
 have hf:=bits_run;cases hn:Fl.isNaN b
 ·rcases ng_cases hb with ⟨h,he⟩|⟨h,he⟩
  ·have hc:keyB b = -1 - (Fl.rg b:Int):=by simp[keyB,hn,h]
   have HC:=zh hc;clear hc;have hd:=ng_bits hb;rw[h]at hd;have hl:=rg_lt b;have e1:IntKind.u64.wrap ((b:Int) - 9223372036854775808)=(Fl.rg b:Int):=by rw[IntWalk.u64_in _ (by omega)];omega
   have E1:=zh e1;clear e1;have e2:wrap64 (-1 - wrap64 (Fl.rg b:Int)) = -1 - (Fl.rg b:Int):=by rw[IntWalk.wrap64_in (Fl.rg b:Int) (by omega),IntWalk.wrap64_in _ (by omega)]
   have E2:=zh e2;clear e2;clear he hl;go_in;go_wp2_with (go_at_call 159;refine(rnan_any _ _).mono ?_;rintro e w' ⟨rfl,rfl⟩)
   go_ret;exact⟨ret_val (by rw[HC.out,←E2.out,←E1.out];rfl),rfl⟩
  ·have hc:keyB b=(Fl.rg b:Int):=by simp[keyB,hn,h]
   have HC:=zh hc;clear hc;have hd:=ng_bits hb;rw[h]at hd;have hl:=rg_lt b;have e2:wrap64 (b:Int)=(Fl.rg b:Int):=by rw[IntWalk.wrap64_in _ (by omega)];omega
   have E2:=zh e2;clear e2;clear he hl;go_in;go_wp2_with (go_at_call 159;refine(rnan_any _ _).mono ?_;rintro e w' ⟨rfl,rfl⟩)
   go_ret;exact⟨ret_val (by rw[HC.out,←E2.out];rfl),rfl⟩
 ·have hc:keyB b=9223372036854775807:=keyB_nan hn;have HC:=zh hc;clear hc;go_in;go_wp2_with (go_at_call 159;refine(rnan_any _ _).mono ?_;rintro e w' ⟨rfl,rfl⟩)
  go_ret;exact⟨ret_val (by rw[HC.out];rfl),rfl⟩
theorem rorder_any (a b:Nat) (ha:F64 a) (hb:F64 b) (w:World):Calls Tryz.prog 88 #[.float .f64 a,.float .f64 b] w fun e w'=>e=.returned (.int .i64 (ordB a b))∧w=w':=by
 by_cases h1:keyB a<keyB b
 ·have hc:ordB a b = -1:=by unfold ordB;rw[if_pos h1]
  have HC:=zh hc;clear hc;go_in;go_wp2_with fail
  refine(rkey_any _ ha _).mono ?_;rintro e w' ⟨rfl,rfl⟩;go_wp2_with fail
  refine(rkey_any _ hb _).mono ?_;rintro e w' ⟨rfl,rfl⟩;go_wp2_with fail
  go_ret;exact⟨ret_val (by rw[HC.out];rfl),rfl⟩
 ·by_cases h2:keyB b<keyB a
  ·have hc:ordB a b=1:=by unfold ordB;rw[if_neg h1,if_pos h2]
   have HC:=zh hc;clear hc;go_in;go_wp2_with fail
   refine(rkey_any _ ha _).mono ?_;rintro e w' ⟨rfl,rfl⟩;go_wp2_with fail
   refine(rkey_any _ hb _).mono ?_;rintro e w' ⟨rfl,rfl⟩;go_wp2_with fail
   go_ret;exact⟨ret_val (by rw[HC.out];rfl),rfl⟩
  ·have hc:ordB a b=0:=by unfold ordB;rw[if_neg h1,if_neg h2]
   have HC:=zh hc;clear hc;go_in;go_wp2_with fail
   refine(rkey_any _ ha _).mono ?_;rintro e w' ⟨rfl,rfl⟩;go_wp2_with fail
   refine(rkey_any _ hb _).mono ?_;rintro e w' ⟨rfl,rfl⟩;go_wp2_with fail
   go_ret;exact⟨ret_val (by rw[HC.out];rfl),rfl⟩
end
section
open Go.RowKit
theorem countL_stop {l:List VT} {m:Nat} (h:500≤m):countL l m=m:=by
 cases l with
 | nil=>rw[countL]
 | cons x xs=>rw[countL,if_pos h]
theorem countL_drop {l:List VT} {i m:Nat} (hi:i<l.length) (h:m<500):countL (l.drop i) m=countL (l.drop (i+1)) (countV (l.getD i noVT) m):=by
 have e:l.getD i noVT=l[i]:=by simp[List.getD,hi]
 rw[List.drop_eq_getElem_cons hi,countL,if_neg (by omega),e]
theorem countL_end {l:List VT} {i m:Nat} (hi:l.length≤i):countL (l.drop i) m=m:=by
 rw[List.drop_eq_nil_of_le hi,countL]
theorem ValAt.form {w:World} {d:Nat} {v:VT} {cs:Array Value} (h:ValAt w d v cs):∃ pn pi,cs=#[.int .i64 v.kind,.int .i64 v.num,.float .f64 v.flt,.string ⟨v.str.toArray⟩,pn,pi]:=by
 cases d with
 | zero=>exact h.elim
 | succ d=>obtain⟨pn,pi,h1,_⟩:=h;exact⟨pn,pi,h1⟩
theorem rcount_any:∀ (d:Nat) (v:VT) (cs:Array Value) (n:Nat) (w:World),ValAt w d v cs→n<500 →
  Calls Tryz.prog 75 #[.agg cs,.int .i64 (n:Int)] w fun e w'=>e=.returned (.int .i64 (countV v n:Nat))∧Below w.heap.size w w'
 | 0,_,_,_,_,h,_=>h.elim
 | d+1,v,cs,n,w,h,hn=>by
  obtain⟨pn,pi,rfl,h2,h3,h4,h5,h6,h7,h8⟩:=h;have ih:=zh (rcount_any d);have hcv:countV v n=countL v.items (n+1):=by cases v;rw[countV];rfl
  have HCV:=zh hcv;clear hcv h2 h3 h4 h5 h6;have hB:Below w.heap.size w (w.alloc (.cells #[.int .i64 v.kind,.int .i64 v.num,.float .f64 v.flt,.string ⟨v.str.toArray⟩,pn,pi] 28)):=(Below.refl _ _).alloc (Nat.le_refl _) _;have hnew:(w.alloc (.cells #[.int .i64 v.kind,.int .i64 v.num,.float .f64 v.flt,.string ⟨v.str.toArray⟩,pn,pi] 28)).heap[w.heap.size]?=some (.cells #[.int .i64 v.kind,.int .i64 v.num,.float .f64 v.flt,.string ⟨v.str.toArray⟩,pn,pi] 28 (0,0)):=heap_alloc_new w _;have hK:w.heap.size+1=(w.alloc (.cells #[.int .i64 v.kind,.int .i64 v.num,.float .f64 v.flt,.string ⟨v.str.toArray⟩,pn,pi] 28)).heap.size:=by simp
  obtain⟨its,hits⟩:∃ its,its=v.items:=⟨_,rfl⟩;rw[←hits]at h7 h8 HCV;have h8':∃ p cap,pi=.slice p its.length cap∧∀ i,i<its.length→∃ g off,p=some ⟨g,off,none⟩∧g<w.heap.size∧∃ ds,ValAt w d (its.getD i noVT) ds∧∀ j,j<6→w.cell? ⟨g,off+i*6+j,none⟩=ds[j]?:=by
   rcases h8 with ⟨h8,p,c,hp⟩|⟨g,off,cap,hp,hg,hc⟩
   ·subst h8;exact⟨p,c,hp,fun i hi=>absurd hi (by simp)⟩
   ·exact⟨_,cap,hp,fun i hi=>⟨g,off,rfl,hg,hc i hi⟩⟩
  obtain⟨p,cap,rfl,h9⟩:=h8';have H9:=zh h9;clear h8 h9 hits;generalize hN:its.length=N at *;have HN:=zh hN;clear hN;go_in;go_wp2_with fail
  generalize w.alloc (.cells #[.int .i64 v.kind,.int .i64 v.num,.float .f64 v.flt,.string ⟨v.str.toArray⟩,pn,.slice p N cap] 28)=W0 at *;generalize hgh:w.heap.size=H at *;have HH:=zh hgh;clear hgh;have hW0:H<W0.heap.size:=by omega
  clear hK;have hB8:=Below.refl W0.heap.size W0;generalize hG:W0.heap.size=G at *;have HG:=zh hG;clear hG;go_loopw [1,5] (fun mv iv wr=>∃ i m:Nat,i≤N∧m≤500∧mv=.int .i64 m∧iv=.int .i64 i∧Below G W0 wr∧Hid (countV v n=countL (its.drop i) m)) (fun _ iv _=>N - (intOf iv).toNat)
  case atStart=>exact⟨0,n+1,by omega,by omega,by go_num,rfl,hB8,by show _=_;rw[List.drop_zero,HCV.out]⟩
  case round =>
   clear hB8;obtain⟨i,m,hi,hm,rfl,rfl,hBr,hcn⟩:=hrel;have hGr:G≤wr.heap.size:=by have:=hBr.size;rw[HG.out]at this;exact this
   have hBw:Below H w wr:=hB.trans (hBr.mono (by omega));have r5:wr.cell? ⟨H,5,none⟩=some (.slice p N cap):=(hBr.cell (p:=⟨H,5,none⟩) (by show H<G;omega)).trans (by simp[World.cell?,hnew]);have hmin:min (m:Int) 500=(m:Int):=by omega
   by_cases hlt:i<N
   ·have t0:decide ((i:Int)<(N:Int))=true:=by simp;omega
    by_cases h5:m<500
    ·have t1:decide ((m:Int)<500)=true:=by simp;omega
     obtain⟨g,off,rfl,hg,ds,hv,hcl⟩:=H9.out i hlt;obtain⟨qn,qi,rfl⟩:=ValAt.form hv;have x0:wr.cell? ⟨g,off+i*6,none⟩=some (.int .i64 (its.getD i noVT).kind):=(hBw.cell (p:=⟨g,off+i*6+0,none⟩) hg).trans (hcl 0 (by decide));have x1:wr.cell? ⟨g,off+i*6+1,none⟩=some (.int .i64 (its.getD i noVT).num):=(hBw.cell (p:=⟨g,off+i*6+1,none⟩) hg).trans (hcl 1 (by decide));have x2:wr.cell? ⟨g,off+i*6+2,none⟩=some (.float .f64 (its.getD i noVT).flt):=(hBw.cell (p:=⟨g,off+i*6+2,none⟩) hg).trans (hcl 2 (by decide));have x3:wr.cell? ⟨g,off+i*6+3,none⟩=some (.string ⟨(its.getD i noVT).str.toArray⟩):=(hBw.cell (p:=⟨g,off+i*6+3,none⟩) hg).trans (hcl 3 (by decide));have x4:wr.cell? ⟨g,off+i*6+4,none⟩=some (qn):=(hBw.cell (p:=⟨g,off+i*6+4,none⟩) hg).trans (hcl 4 (by decide));have x5:wr.cell? ⟨g,off+i*6+5,none⟩=some (qi):=(hBw.cell (p:=⟨g,off+i*6+5,none⟩) hg).trans (hcl 5 (by decide));have hv2:=ValAt.kept (w':=wr) (by rw[HH.out];exact hBw) d _ _ hv;have HC:=zh (ih.out _ _ m wr hv2 h5);have hdn:=countL_drop (l:=its) (i:=i) (m:=m) (by rw[HN.out];exact hlt) h5;have HD:=zh hdn;have hle:=countV_le (its.getD i noVT) m h5;generalize its.getD i noVT=k at *;generalize countV k m=m2 at *;have b1:(0:Int)≤(i:Int):=by omega
     have b2:(i:Int)<(N:Int):=by omega
     clear hdn hcl hv hv2 hmin;go_wp2_with fail
     refine(HC.out).mono ?_;rintro e w5 ⟨rfl,hb5⟩;have hB6:=hBr.trans (hb5.mono hGr);go_wp2_with fail
     go_roundw
     case rel=>exact⟨i+1,m2,by omega,hle.1,rfl,by go_num,hB6,by show _=_;rw[hcn.out,HD.out]⟩
     case measure=>simp[intOf];omega
    ·have t1:decide ((m:Int)<500)=false:=by simp;omega
     have HF:=zh (countL_stop (l:=its.drop i) (m:=m) (by omega));go_wp2_with fail
     go_ret;exact⟨ret_val (by rw[hcn.out,HF.out];rfl),by rw[HH.out];exact hBw⟩
   ·have t0:decide ((i:Int)<(N:Int))=false:=by simp;omega
    have HF:=zh (countL_end (l:=its) (i:=i) (m:=m) (by rw[HN.out];omega));go_wp2_with fail
    go_ret;exact⟨ret_val (by rw[hcn.out,HF.out];rfl),by rw[HH.out];exact hBw⟩
end
section
open Go.RowKit
mutual
/-- how deep, looked at so far -/
def depthV:VT→Nat→Nat
 | .mk _ _ _ _ _ its,far=>if far=0 then 1 else depthL its (far - 1)+1
def depthL:List VT→Nat→Nat
 | [],_=>0
 | x::xs,far=>max (depthV x far) (depthL xs far)
end
theorem rparts_any (d:Nat) (v:VT) (cs:Array Value) (w:World) (h:ValAt w d v cs) :
  Calls Tryz.prog 43 #[.agg cs] w fun e w'=>e=.returned (.int .i64 (countV v 0:Nat))∧Below w.heap.size w w':=by
 obtain⟨pn,pi,rfl⟩:=ValAt.form h;have hB:Below w.heap.size w (w.alloc (.cells #[.int .i64 v.kind,.int .i64 v.num,.float .f64 v.flt,.string ⟨v.str.toArray⟩,pn,pi] 28)):=(Below.refl _ _).alloc (Nat.le_refl _) _;have h2:=ValAt.kept hB d _ _ h;have HC:=zh (rcount_any d v _ 0 _ h2 (by omega));go_in;go_wp2_with fail
 refine(HC.out).mono ?_;rintro e w2 ⟨rfl,k2⟩;go_wp2_with fail
 go_ret;exact⟨rfl,hB.trans (k2.mono (by simp))⟩
theorem depthL_drop {l:List VT} {i m:Nat} (hi:i<l.length):depthL (l.drop i) m=max (depthV (l.getD i noVT) m) (depthL (l.drop (i+1)) m):=by
 have e:l.getD i noVT=l[i]:=by simp[List.getD,hi]
 rw[List.drop_eq_getElem_cons hi,depthL,e]
mutual
theorem depthV_le:∀ (v:VT) (n:Nat),depthV v n≤n+1
 | .mk _ _ _ _ _ its,n=>by
  rw[depthV];split
  ·omega
  ·have:=depthL_le its (n - 1);omega
theorem depthL_le:∀ (l:List VT) (n:Nat),depthL l n≤n+1
 | [],n=>by rw[depthL];omega
 | x::xs,n=>by
  rw[depthL];have h1:=depthV_le x n;have h2:=depthL_le xs n;omega
end
theorem rdepth_any:∀ (d:Nat) (v:VT) (cs:Array Value) (n:Nat) (w:World),ValAt w d v cs→n≤1000 →
  Calls Tryz.prog 42 #[.agg cs,.int .i64 (n:Int)] w fun e w'=>e=.returned (.int .i64 (depthV v n:Nat))∧Below w.heap.size w w'
 | 0,_,_,_,_,h,_=>h.elim
 | d+1,v,cs,n,w,h,hn=>by
  obtain⟨pn,pi,rfl,h2,h3,h4,h5,h6,h7,h8⟩:=h;have ih:=zh (rdepth_any d);have hcv:depthV v n=if n=0 then 1 else depthL v.items (n - 1)+1:=by cases v;rw[depthV];rfl
  have HCV:=zh hcv;clear hcv h2 h3 h4 h5 h6;have hB:Below w.heap.size w (w.alloc (.cells #[.int .i64 v.kind,.int .i64 v.num,.float .f64 v.flt,.string ⟨v.str.toArray⟩,pn,pi] 28)):=(Below.refl _ _).alloc (Nat.le_refl _) _;have hnew:(w.alloc (.cells #[.int .i64 v.kind,.int .i64 v.num,.float .f64 v.flt,.string ⟨v.str.toArray⟩,pn,pi] 28)).heap[w.heap.size]?=some (.cells #[.int .i64 v.kind,.int .i64 v.num,.float .f64 v.flt,.string ⟨v.str.toArray⟩,pn,pi] 28 (0,0)):=heap_alloc_new w _;have hK:w.heap.size+1=(w.alloc (.cells #[.int .i64 v.kind,.int .i64 v.num,.float .f64 v.flt,.string ⟨v.str.toArray⟩,pn,pi] 28)).heap.size:=by simp
  obtain⟨its,hits⟩:∃ its,its=v.items:=⟨_,rfl⟩;rw[←hits]at h7 h8 HCV;have h8':∃ p cap,pi=.slice p its.length cap∧∀ i,i<its.length→∃ g off,p=some ⟨g,off,none⟩∧g<w.heap.size∧∃ ds,ValAt w d (its.getD i noVT) ds∧∀ j,j<6→w.cell? ⟨g,off+i*6+j,none⟩=ds[j]?:=by
   rcases h8 with ⟨h8,p,c,hp⟩|⟨g,off,cap,hp,hg,hc⟩
   ·subst h8;exact⟨p,c,hp,fun i hi=>absurd hi (by simp)⟩
   ·exact⟨_,cap,hp,fun i hi=>⟨g,off,rfl,hg,hc i hi⟩⟩
  obtain⟨p,cap,rfl,h9⟩:=h8';have H9:=zh h9;clear h8 h9 hits;generalize hN:its.length=N at *;have HN:=zh hN;clear hN;go_in;go_wp2_with fail
  generalize w.alloc (.cells #[.int .i64 v.kind,.int .i64 v.num,.float .f64 v.flt,.string ⟨v.str.toArray⟩,pn,.slice p N cap] 28)=W0 at *;generalize hgh:w.heap.size=H at *;have HH:=zh hgh;clear hgh;have hW0:H<W0.heap.size:=by omega
  clear hK;have hB8:=Below.refl W0.heap.size W0;generalize hG:W0.heap.size=G at *;have HG:=zh hG;clear hG;go_loopw [5,6] (fun mv iv wr=>∃ i m:Nat,i≤N∧m≤2000∧mv=.int .i64 m∧iv=.int .i64 i∧Below G W0 wr∧(n=0→m=0)∧Hid (n≠0→depthL its (n - 1)=max m (depthL (its.drop i) (n - 1)))) (fun _ iv _=>N - (intOf iv).toNat)
  case atStart=>exact⟨0,0,by omega,by omega,rfl,rfl,hB8,fun _=>rfl,fun _=>by rw[List.drop_zero,Nat.zero_max]⟩
  case round =>
   clear hB8;obtain⟨i,m,hi,hm,rfl,rfl,hBr,hm0,hcn⟩:=hrel;have hGr:G≤wr.heap.size:=by have:=hBr.size;rw[HG.out]at this;exact this
   have hBw:Below H w wr:=hB.trans (hBr.mono (by omega));have r5:wr.cell? ⟨H,5,none⟩=some (.slice p N cap):=(hBr.cell (p:=⟨H,5,none⟩) (by show H<G;omega)).trans (by simp[World.cell?,hnew]);by_cases hlt:i<N
   ·have t0:decide ((i:Int)<(N:Int))=true:=by simp;omega
    by_cases h5:0<n
    ·have t1:decide ((0:Int)<(n:Int))=true:=by simp;omega
     obtain⟨g,off,rfl,hg,ds,hv,hcl⟩:=H9.out i hlt;obtain⟨qn,qi,rfl⟩:=ValAt.form hv;have x0:wr.cell? ⟨g,off+i*6,none⟩=some (.int .i64 (its.getD i noVT).kind):=(hBw.cell (p:=⟨g,off+i*6+0,none⟩) hg).trans (hcl 0 (by decide));have x1:wr.cell? ⟨g,off+i*6+1,none⟩=some (.int .i64 (its.getD i noVT).num):=(hBw.cell (p:=⟨g,off+i*6+1,none⟩) hg).trans (hcl 1 (by decide));have x2:wr.cell? ⟨g,off+i*6+2,none⟩=some (.float .f64 (its.getD i noVT).flt):=(hBw.cell (p:=⟨g,off+i*6+2,none⟩) hg).trans (hcl 2 (by decide));have x3:wr.cell? ⟨g,off+i*6+3,none⟩=some (.string ⟨(its.getD i noVT).str.toArray⟩):=(hBw.cell (p:=⟨g,off+i*6+3,none⟩) hg).trans (hcl 3 (by decide));have x4:wr.cell? ⟨g,off+i*6+4,none⟩=some (qn):=(hBw.cell (p:=⟨g,off+i*6+4,none⟩) hg).trans (hcl 4 (by decide));have x5:wr.cell? ⟨g,off+i*6+5,none⟩=some (qi):=(hBw.cell (p:=⟨g,off+i*6+5,none⟩) hg).trans (hcl 5 (by decide));have hv2:=ValAt.kept (w':=wr) (by rw[HH.out];exact hBw) d _ _ hv;have HC:=zh (ih.out _ _ (n - 1) wr hv2 (by omega));have hdn:=depthL_drop (l:=its) (i:=i) (m:=n - 1) (by rw[HN.out];exact hlt);have HD:=zh hdn;have hle:=depthV_le (its.getD i noVT) (n - 1);generalize its.getD i noVT=k at *;generalize depthV k (n - 1)=m2 at *;have b1:(0:Int)≤(i:Int):=by omega
     have b2:(i:Int)<(N:Int):=by omega
     have hn1:((n - 1:Nat):Int)=(n:Int) - 1:=by omega
     rw[hn1]at HC;have hmx:max (m:Int) (m2:Int)=((max m m2:Nat):Int):=by omega
     clear hdn hcl hv hv2 hn1;go_wp2_with fail
     refine(HC.out).mono ?_;rintro e w5 ⟨rfl,hb5⟩;have hB6:=hBr.trans (hb5.mono hGr);go_wp2_with fail
     go_roundw
     case rel=>exact⟨i+1,max m m2,by omega,by omega,rfl,by go_num,hB6,fun h=>absurd h (by omega),fun h=>by rw[hcn.out h,HD.out,Nat.max_assoc]⟩
     case measure=>simp[intOf];omega
    ·have t1:decide ((0:Int)<(n:Int))=false:=by simp;omega
     have hn0:n=0:=by omega
     have HF:=zh (show depthV v n=m+1 from by rw[HCV.out,if_pos hn0,hm0 hn0]);clear hn0;go_wp2_with fail
     go_ret;exact⟨ret_val (by rw[HF.out];rfl),by rw[HH.out];exact hBw⟩
   ·have t0:decide ((i:Int)<(N:Int))=false:=by simp;omega
    have HF:=zh (show depthV v n=m+1 from by
     rw[HCV.out];by_cases h0:n=0
     ·rw[if_pos h0,hm0 h0]
     ·rw[if_neg h0,hcn.out h0,List.drop_eq_nil_of_le (by rw[HN.out];omega),depthL,Nat.max_zero])
    go_wp2_with fail
    go_ret;exact⟨ret_val (by rw[HF.out];rfl),by rw[HH.out];exact hBw⟩
end
section
open Go.RowKit
def smallB (v:VT):Bool:=decide (depthV v 40≤30)&&decide (countV v 0<500)
theorem rsmall_any (d:Nat) (v:VT) (cs:Array Value) (w:World) (h:ValAt w d v cs) :
  Calls Tryz.prog 14 #[.agg cs] w fun e w'=>e=.returned (.bool (smallB v))∧Below w.heap.size w w':=by
 obtain⟨pn,pi,rfl⟩:=ValAt.form h;have hB:Below w.heap.size w (w.alloc (.cells #[.int .i64 v.kind,.int .i64 v.num,.float .f64 v.flt,.string ⟨v.str.toArray⟩,pn,pi] 28)):=(Below.refl _ _).alloc (Nat.le_refl _) _;have h2:=ValAt.kept hB d _ _ h;have HD:=zh (rdepth_any d v _ 40 _ h2 (by omega));have HP:=zh (fun w2 k=>rparts_any d v _ w2 (ValAt.kept k d _ _ h2));have hs:=smallB.eq_def v;have hnew:(w.alloc (.cells #[.int .i64 v.kind,.int .i64 v.num,.float .f64 v.flt,.string ⟨v.str.toArray⟩,pn,pi] 28)).heap[w.heap.size]?=some (.cells #[.int .i64 v.kind,.int .i64 v.num,.float .f64 v.flt,.string ⟨v.str.toArray⟩,pn,pi] 28 (0,0)):=heap_alloc_new w _;have hW0:w.heap.size<(w.alloc (.cells #[.int .i64 v.kind,.int .i64 v.num,.float .f64 v.flt,.string ⟨v.str.toArray⟩,pn,pi] 28)).heap.size:=by simp
 have HS:=zh hs;clear hs h2;generalize depthV v 40=a at *;generalize countV v 0=b at *;by_cases ha:a≤30
 ·have t1:decide ((a:Int)≤30)=true:=by simp;omega
  have HA:=zh ha;go_in;go_wp2_with fail
  refine(HD.out).mono ?_;rintro e w2 ⟨rfl,k2⟩;generalize w.alloc (.cells #[.int .i64 v.kind,.int .i64 v.num,.float .f64 v.flt,.string ⟨v.str.toArray⟩,pn,pi] 28)=W0 at *;have hc:∀ j,w2.cell? ⟨w.heap.size,j,none⟩=(#[.int .i64 v.kind,.int .i64 v.num,.float .f64 v.flt,.string ⟨v.str.toArray⟩,pn,pi]:Array Value)[j]?:=fun j=>(k2.cell (p:=⟨w.heap.size,j,none⟩) hW0).trans (by simp[World.cell?,hnew])
  have x0:=hc 0;have x1:=hc 1;have x2:=hc 2;have x3:=hc 3;have x4:=hc 4;have x5:=hc 5;clear hc;simp at x0 x1 x2 x3 x4 x5;by_cases hb:b<500
  ·have t2:decide ((b:Int)<500)=true:=by simp;omega
   have HB:=zh (show decide (b<500)=true from decide_eq_true hb);go_wp2_with fail
   refine(HP.out _ k2).mono ?_;rintro e w3 ⟨rfl,k3⟩;go_wp2_with fail
   go_ret;exact⟨ret_val (by rw[HS.out,decide_eq_true HA.out,HB.out];rfl),(hB.trans (k2.mono (by omega))).trans (k3.mono (by have:=k2.size;omega))⟩
  ·have t2:decide ((b:Int)<500)=false:=by simp;omega
   have HB:=zh (show decide (b<500)=false from decide_eq_false hb);go_wp2_with fail
   refine(HP.out _ k2).mono ?_;rintro e w3 ⟨rfl,k3⟩;go_wp2_with fail
   go_ret;exact⟨ret_val (by rw[HS.out,decide_eq_true HA.out,HB.out];rfl),(hB.trans (k2.mono (by omega))).trans (k3.mono (by have:=k2.size;omega))⟩
 ·have t1:decide ((a:Int)≤30)=false:=by simp;omega
  have HA:=zh ha;go_in;go_wp2_with fail
  refine(HD.out).mono ?_;rintro e w2 ⟨rfl,k2⟩;go_wp2_with fail
  go_ret;exact⟨ret_val (by rw[HS.out,decide_eq_false HA.out];rfl),hB.trans (k2.mono (by omega))⟩
end
section
open Go.RowKit
theorem rzeroV_any (d:Nat) (v:VT) (cs:Array Value) (w:World) (h:ValAt w d v cs) :
  Calls Tryz.prog 157 #[.agg cs] w fun e w'=>e=.returned (.bool (zeroB v.flt))∧Below w.heap.size w w':=by
 obtain⟨pn,pi,rfl⟩:=ValAt.form h;have hB:Below w.heap.size w (w.alloc (.cells #[.int .i64 v.kind,.int .i64 v.num,.float .f64 v.flt,.string ⟨v.str.toArray⟩,pn,pi] 28)):=(Below.refl _ _).alloc (Nat.le_refl _) _;have hs:=rsame_any v.flt 0;rw[show canon 0=0 from rfl]at hs;have HS:=zh hs;clear hs;go_in;go_wp2_with fail
 refine(HS.out _).mono ?_;rintro e w2 ⟨rfl,rfl⟩;go_wp2_with fail
 go_ret;exact⟨rfl,hB⟩
end
section
open Go.RowKit
theorem u8_beqV (c:UInt8) (n:UInt8):(c==n)=((c.toNat:Int)==(n.toNat:Int)):=by
 rw[Bool.eq_iff_iff,beq_iff_eq,beq_iff_eq,←UInt8.toNat_inj];omega
/-- so far it may be a name -/
def NmTo (l:List UInt8) (k:Nat):Prop:=(k=0∨isLet (l.getD 0 0)=true)∧(l.take k).all isNm=true
theorem NmTo.zero (l:List UInt8):NmTo l 0:=⟨.inl rfl,rfl⟩
theorem NmTo.step {l:List UInt8} {k:Nat} (h:NmTo l k) (hk:k<l.length) (hn:isNm (l.getD k 0)=true) (h0:k≠0∨isLet (l.getD k 0)=true):NmTo l (k+1):=by
 have e:l.getD k 0=l[k]:=by simp[List.getD,hk]
 refine⟨.inr ?_,?_⟩
 ·rcases Nat.eq_zero_or_pos k with rfl|hp
  ·rcases h0 with h0|h0
   ·exact absurd rfl h0
   ·exact h0
  ·rcases h.1 with h1|h1
   ·omega
   ·exact h1
 ·rw[List.take_succ_eq_append_getElem hk,List.all_append,h.2,←e,List.all_cons,hn];rfl
theorem NmTo.whole {l:List UInt8} (h:NmTo l l.length) (h1:1≤l.length) (h2:l.length≤30):nmB l=true:=by
 unfold nmB;have h3:=h.2;rw[List.take_length]at h3;rcases h.1 with h0|h0
 ·omega
 ·rw[h0,h3,decide_eq_true (show 1≤l.length∧l.length≤30 from⟨h1,h2⟩)];rfl
theorem nmB_no {l:List UInt8} {k:Nat} (hk:k<l.length) (hn:isNm (l.getD k 0)=false):nmB l=false:=by
 have e:l.getD k 0=l[k]:=by simp[List.getD,hk]
 have:l.all isNm=false:=by
  rw[←Bool.not_eq_true,List.all_eq_true];intro h;have:=h _ (List.getElem_mem hk);rw[←e,hn]at this;cases this
 unfold nmB;rw[this,Bool.and_false]
theorem nmB_no0 {l:List UInt8} (hn:isLet (l.getD 0 0)=false):nmB l=false:=by
 unfold nmB;rw[hn,Bool.and_false,Bool.false_and]
theorem nmB_short {l:List UInt8} (h:¬ (1≤l.length∧l.length≤30)):nmB l=false:=by
 unfold nmB;rw[decide_eq_false h,Bool.false_and,Bool.false_and]
theorem rname4_any (s:ByteArray) (w:World):Calls Tryz.prog 154 #[.string s] w fun e w'=>e=.returned (.bool (nmB s.data.toList))∧w=w':=by
 have hl:s.data.toList.length=s.size:=by simp
 have HL:=zh hl;clear hl;by_cases h1:s.size<1
 ·have t1:decide ((s.size:Int)<1)=true:=by simp;omega
  have HX:=zh (nmB_short (l:=s.data.toList) (by rw[HL.out];omega));go_in;go_wp2_with fail
  go_ret;exact⟨ret_val (by rw[HX.out];rfl),rfl⟩
 ·have t1:decide ((s.size:Int)<1)=false:=by simp;omega
  by_cases h2:30<s.size
  ·have t2:decide ((30:Int)<(s.size:Int))=true:=by simp;omega
   have HX:=zh (nmB_short (l:=s.data.toList) (by rw[HL.out];omega));go_in;go_wp2_with fail
   go_ret;exact⟨ret_val (by rw[HX.out];rfl),rfl⟩
  ·have t2:decide ((30:Int)<(s.size:Int))=false:=by simp;omega
   have t2':¬ 30<s.size:=h2;go_in;go_wp2_with fail
   go_loop [3] (fun kv=>∃ k:Nat,k≤s.size∧kv=.int .i64 k∧NmTo s.data.toList k) (fun kv=>s.size - (intOf kv).toNat)
   case atStart=>exact⟨0,Nat.zero_le _,rfl,NmTo.zero _⟩
   case round =>
    obtain⟨k,hk,rfl,hnm⟩:=hrel;by_cases hlt:k<s.size
    ·have t0:decide ((k:Int)<(s.size:Int))=true:=by simp;omega
     have hg0:s.data.toList.getD k 0=s[k]'hlt:=by simp[List.getD,hlt];rfl
     have HStep:=zh (fun hn h0=>hnm.step (by rw[HL.out];exact hlt) hn h0);have HNo:=zh (fun hn=>nmB_no (l:=s.data.toList) (k:=k) (by rw[HL.out];exact hlt) hn);rw[hg0]at HStep HNo;have hN0:isLet (s[k]'hlt)=false→k=0→nmB s.data.toList=false:=by
      intro h hk0;refine nmB_no0 ?_;rw[←hg0]at h;rw[hk0]at h;exact h
     have HNo0:=zh hN0;clear hnm hg0 hN0;have hLt:isLet (s[k]'hlt)=(decide ((97:Int)≤((s[k]'hlt).toNat:Int))&&decide (((s[k]'hlt).toNat:Int)≤122)):=by
      unfold isLet;rw[Bool.eq_iff_iff];simp;omega
     have hDg:isDig (s[k]'hlt)=(decide ((48:Int)≤((s[k]'hlt).toNat:Int))&&decide (((s[k]'hlt).toNat:Int)≤57)):=by
      show decide (48≤(s[k]'hlt).toNat∧(s[k]'hlt).toNat≤57)=_;rw[Bool.eq_iff_iff];simp;omega
     have hNm:isNm (s[k]'hlt)=(isLet (s[k]'hlt)||isDig (s[k]'hlt)||((s[k]'hlt).toNat:Int)==95):=by unfold isNm;rw[u8_beqV (s[k]'hlt) 95];rfl
     rw[hLt,hDg]at hNm;have HNm:=zh hNm;have HLt:=zh hLt;clear hNm hLt hDg;cases a1:decide ((97:Int)≤((s[k]'hlt).toNat:Int))<;>cases a2:decide (((s[k]'hlt).toNat:Int)≤122)
     case true.true =>
      rw[a1,a2]at HLt HNm;have HY:=zh (HStep.out (by rw[HNm.out];rfl) (.inr (by rw[HLt.out];rfl)));go_wp2_with fail
      go_round
      case rel=>exact⟨k+1,by omega,by go_num,HY.out⟩
      case measure=>simp[intOf];omega
     all_goals
      rw[a1,a2]at HLt HNm;by_cases hk0:k=0
      ·have HX:=zh (HNo0.out (by rw[HLt.out];rfl) hk0);have tk:((k:Int)==0)=true:=by rw[hk0];rfl
       clear hk0;go_wp2_with fail
       go_ret;exact⟨ret_val (by rw[HX.out];rfl),rfl⟩
      ·have tk:((k:Int)==0)=false:=by rw[beq_eq_false_iff_ne];omega
       cases a3:decide ((48:Int)≤((s[k]'hlt).toNat:Int))<;>cases a4:decide (((s[k]'hlt).toNat:Int)≤57)
       case neg.true.true =>
        rw[a3,a4]at HNm;have HY:=zh (HStep.out (by rw[HNm.out];rfl) (.inl hk0));go_wp2_with fail
        go_round
        case rel=>exact⟨k+1,by omega,by go_num,HY.out⟩
        case measure=>simp[intOf];omega
       all_goals
        rw[a3,a4]at HNm;cases a5:(((s[k]'hlt).toNat:Int)==95)
        ·have a6:(((s[k]'hlt).toNat:Int) != 95)=true:=by rw[bne,a5];rfl
         rw[a5]at HNm;have HX:=zh (HNo.out (by rw[HNm.out];rfl));go_wp2_with fail
         go_ret;exact⟨ret_val (by rw[HX.out];rfl),rfl⟩
        ·have a6:(((s[k]'hlt).toNat:Int) != 95)=false:=by rw[bne,a5];rfl
         rw[a5]at HNm;have HY:=zh (HStep.out (by rw[HNm.out];rfl) (.inl hk0));go_wp2_with fail
         go_round
         case rel=>exact⟨k+1,by omega,by go_num,HY.out⟩
         case measure=>simp[intOf];omega
    ·have t0:decide ((k:Int)<(s.size:Int))=false:=by simp;omega
     have hks:k=s.size:=by omega
     have t0':¬ k<s.size:=hlt;rw[hks,←HL.out]at hnm;have HX:=zh (hnm.whole (by rw[HL.out];omega) (by rw[HL.out];omega));clear hks hnm;go_wp2_with fail
     go_ret;exact⟨ret_val (by rw[HX.out];rfl),rfl⟩
end
section
open Go
def okAt (l:List (List UInt8)) (i:Nat):Bool:=nmB (l.getD i [])&&(decide (i=0)||Op.bytesLess (l.getD (i - 1) []) (l.getD i []))
theorem rises_iff:∀ l:List (List UInt8),risesB l=true↔∀ i,i<l.length→okAt l i=true
 | []=>by simp[risesB]
 | [a]=>by
  constructor
  ·intro h i hi;have:i=0:=by simp at hi;exact hi
   subst this;simpa [okAt,risesB] using h
  ·intro h;have:=h 0 (by simp);simpa [okAt,risesB] using this
 | a::b::l=>by
  have ih:=rises_iff (b::l);rw[risesB,Bool.and_eq_true,Bool.and_eq_true,ih];constructor
  ·rintro⟨⟨h1,h2⟩,h3⟩ i hi;match i with
   | 0=>simp[okAt,h1]
   | 1 =>
    have:=h3 0 (by simp);simp[okAt]at this ⊢
    exact⟨this,h2⟩
   | i+2 =>
    have:=h3 (i+1) (by simp at hi ⊢;omega)
    simpa [okAt] using this
  ·intro h;refine⟨⟨?_,?_⟩,?_⟩
   ·have:=h 0 (by simp);simp[okAt]at this;exact this
   ·have:=h 1 (by simp);simp[okAt]at this;exact this.2
   ·intro i hi;match i with
    | 0 =>
     have:=h 1 (by simp);simp[okAt]at this ⊢
     exact this.1
    | i+1 =>
     have:=h (i+2) (by simp at hi ⊢;omega)
     simpa [okAt] using this
end
end Go.Proofs.YtepaaochgljcdaaGreatDoor
