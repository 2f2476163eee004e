/-
  Bs1, Bs9, Bs5, Bs2, Bs3, Ub, Z8, U4 in one text.
-/
import Derived.Deep.Upon
import Derived.Test.YtepaaochgljcdaaGreatDoorEvH
import Derived.Test.YtepaaochgljcdaaGreatDoorEvP
import Derived.Test.YtepaaochgljcdaaGreatDoorS16
import Derived.Test.YtepaaochgljcdaaGreatDoorS17
import Derived.Test.YtepaaochgljcdaaGreatDoorS18
import Derived.Test.YtepaaochgljcdaaGreatDoorCl
set_option maxRecDepth 100000
set_option maxHeartbeats 16000000
namespace Go.Proofs.YtepaaochgljcdaaGreatDoor
section
open Go.RowKit
theorem rSameCmd_can (a b:CmdT) (d d2:Nat) (ca cb:Array Value) (w:World) (ha:CmdAt w d a ca) (hb:CmdAt w d2 b cb) (hab:canC a=canC b):Calls Tryz.prog 9 #[.agg ca,.agg cb] w (Gives (.bool true) w):=by
 obtain⟨k0,k1,k2,k3,k4,ak,av⟩:=a;obtain⟨l0,l1,l2,l3,l4,bk,bv⟩:=b;simp only[canC,CmdT.mk.injEq]at hab;obtain⟨rfl,rfl,rfl,rfl,rfl,hk,hv⟩:=hab;obtain⟨p0,q0,r0,s0,p1,q1,r1,s1,rfl,hak,hav⟩:=ha;obtain⟨p2,q2,r2,s2,p3,q3,r3,s3,rfl,hbk,hbv⟩:=hb;dsimp only at hak hav hbk hbv;have f0:=(Below.refl w.heap.size w).alloc (Nat.le_refl _) (.cells #[.int .i64 k0,.int .i64 k1,.int .i64 k2,.int .i64 k3,.int .i64 k4,.int .i64 ak.kind,.int .i64 ak.num,.float .f64 ak.flt,.string ⟨ak.str.toArray⟩,.slice p0 ak.names.length q0,.slice r0 ak.items.length s0,.int .i64 av.kind,.int .i64 av.num,.float .f64 av.flt,.string ⟨av.str.toArray⟩,.slice p1 av.names.length q1,.slice r1 av.items.length s1] 30);have h0:=heap_alloc_new w (.cells #[.int .i64 k0,.int .i64 k1,.int .i64 k2,.int .i64 k3,.int .i64 k4,.int .i64 ak.kind,.int .i64 ak.num,.float .f64 ak.flt,.string ⟨ak.str.toArray⟩,.slice p0 ak.names.length q0,.slice r0 ak.items.length s0,.int .i64 av.kind,.int .i64 av.num,.float .f64 av.flt,.string ⟨av.str.toArray⟩,.slice p1 av.names.length q1,.slice r1 av.items.length s1] 30);have hz1:(w.alloc (.cells #[.int .i64 k0,.int .i64 k1,.int .i64 k2,.int .i64 k3,.int .i64 k4,.int .i64 ak.kind,.int .i64 ak.num,.float .f64 ak.flt,.string ⟨ak.str.toArray⟩,.slice p0 ak.names.length q0,.slice r0 ak.items.length s0,.int .i64 av.kind,.int .i64 av.num,.float .f64 av.flt,.string ⟨av.str.toArray⟩,.slice p1 av.names.length q1,.slice r1 av.items.length s1] 30)).heap.size=w.heap.size+1:=by simp
 generalize hW1:w.alloc (.cells #[.int .i64 k0,.int .i64 k1,.int .i64 k2,.int .i64 k3,.int .i64 k4,.int .i64 ak.kind,.int .i64 ak.num,.float .f64 ak.flt,.string ⟨ak.str.toArray⟩,.slice p0 ak.names.length q0,.slice r0 ak.items.length s0,.int .i64 av.kind,.int .i64 av.num,.float .f64 av.flt,.string ⟨av.str.toArray⟩,.slice p1 av.names.length q1,.slice r1 av.items.length s1] 30)=W1 at *;have f1:=(Below.refl W1.heap.size W1).alloc (Nat.le_refl _) (.cells #[.int .i64 k0,.int .i64 k1,.int .i64 k2,.int .i64 k3,.int .i64 k4,.int .i64 bk.kind,.int .i64 bk.num,.float .f64 bk.flt,.string ⟨bk.str.toArray⟩,.slice p2 bk.names.length q2,.slice r2 bk.items.length s2,.int .i64 bv.kind,.int .i64 bv.num,.float .f64 bv.flt,.string ⟨bv.str.toArray⟩,.slice p3 bv.names.length q3,.slice r3 bv.items.length s3] 30);have h1:=heap_alloc_new W1 (.cells #[.int .i64 k0,.int .i64 k1,.int .i64 k2,.int .i64 k3,.int .i64 k4,.int .i64 bk.kind,.int .i64 bk.num,.float .f64 bk.flt,.string ⟨bk.str.toArray⟩,.slice p2 bk.names.length q2,.slice r2 bk.items.length s2,.int .i64 bv.kind,.int .i64 bv.num,.float .f64 bv.flt,.string ⟨bv.str.toArray⟩,.slice p3 bv.names.length q3,.slice r3 bv.items.length s3] 30);generalize hW2:W1.alloc (.cells #[.int .i64 k0,.int .i64 k1,.int .i64 k2,.int .i64 k3,.int .i64 k4,.int .i64 bk.kind,.int .i64 bk.num,.float .f64 bk.flt,.string ⟨bk.str.toArray⟩,.slice p2 bk.names.length q2,.slice r2 bk.items.length s2,.int .i64 bv.kind,.int .i64 bv.num,.float .f64 bv.flt,.string ⟨bv.str.toArray⟩,.slice p3 bv.names.length q3,.slice r3 bv.items.length s3] 30)=W2 at *;rw[hz1]at h1;have h0:=(f1.block _ (lt_of_block h0)).trans h0;have f2:=below_tr' f0 f1;have HK:=zh (rSame_any _ _ _ _ _ _ W2 (hak.kept f2) (hbk.kept f2));have HV:=zh (fun(x:World) (h:Below W2.heap.size W2 x)=>rSame_any _ _ _ _ _ _ x ((hav.kept f2).kept h) ((hbv.kept f2).kept h));rw[sameV_can hk]at HK;rw[sameV_can hv]at HV;have HW1:=zh hW1;have HW2:=zh hW2;have HCA:=zh (fun(x:World) (h:Below W2.heap.size W2 x)=>(h.block _ (lt_of_block h0)).trans h0);have HCB:=zh (fun(x:World) (h:Below W2.heap.size W2 x)=>(h.block _ (lt_of_block h1)).trans h1);clear hW1 hW2 hk hv hak hav hbk hbv f0 f1;obtain⟨x0,x1,x2,x3,x4,x5,x6,x7,x8,x9,x10,x11,x12,x13,x14,x15,x16⟩:=cells17 h0;obtain⟨y0,y1,y2,y3,y4,y5,y6,y7,y8,y9,y10,y11,y12,y13,y14,y15,y16⟩:=cells17 h1;clear h0 h1 hz1;go_in;go_upto_region 1 with (fail)
 rw[HW1.out,HW2.out];go_wp2_with fail
 refine(HK.out).mono ?_;rintro e w3 ⟨rfl,b3⟩;clear x0 y0 x1 y1 x2 y2 x3 y3 x4 y4 x5 y5 x6 y6 x7 y7 x8 y8 x9 y9 x10 y10 x11 y11 x12 y12 x13 y13 x14 y14 x15 y15 x16 y16;have h0:=HCA.out w3 b3;have h1:=HCB.out w3 b3;have x11:w3.cell? ⟨w.heap.size,11,none⟩=some (.int .i64 av.kind):=by rw[zc h0];rfl
 have y11:w3.cell? ⟨w.heap.size+1,11,none⟩=some (.int .i64 bv.kind):=by rw[zc h1];rfl
 have x12:w3.cell? ⟨w.heap.size,12,none⟩=some (.int .i64 av.num):=by rw[zc h0];rfl
 have y12:w3.cell? ⟨w.heap.size+1,12,none⟩=some (.int .i64 bv.num):=by rw[zc h1];rfl
 have x13:w3.cell? ⟨w.heap.size,13,none⟩=some (.float .f64 av.flt):=by rw[zc h0];rfl
 have y13:w3.cell? ⟨w.heap.size+1,13,none⟩=some (.float .f64 bv.flt):=by rw[zc h1];rfl
 have x14:w3.cell? ⟨w.heap.size,14,none⟩=some (.string ⟨av.str.toArray⟩):=by rw[zc h0];rfl
 have y14:w3.cell? ⟨w.heap.size+1,14,none⟩=some (.string ⟨bv.str.toArray⟩):=by rw[zc h1];rfl
 have x15:w3.cell? ⟨w.heap.size,15,none⟩=some (.slice p1 av.names.length q1):=by rw[zc h0];rfl
 have y15:w3.cell? ⟨w.heap.size+1,15,none⟩=some (.slice p3 bv.names.length q3):=by rw[zc h1];rfl
 have x16:w3.cell? ⟨w.heap.size,16,none⟩=some (.slice r1 av.items.length s1):=by rw[zc h0];rfl
 have y16:w3.cell? ⟨w.heap.size+1,16,none⟩=some (.slice r3 bv.items.length s3):=by rw[zc h1];rfl
 clear h0 h1;go_wp2_with fail
 refine(HV.out w3 b3).mono ?_;rintro e w4 ⟨rfl,b4⟩;go_wp2_with fail
 go_ret;exact⟨rfl,below_tr' f2 (below_tr' b3 b4)⟩
end
section
open Go.RowKit
theorem inL_of9:∀ {l:List VT},(∀ i,i<l.length→inV (l.getD i noVT))→inL l
 | [],_=>trivial
 | x::xs,h=>by
  rw[inL];exact⟨h 0 (by simp),inL_of9 fun i hi=>h (i+1) (by simpa using hi)⟩
theorem ValAt.in9 {w:World}:∀ {d:Nat} {v:VT} {cs:Array Value},ValAt w d v cs→inV v
 | 0,_,_,h=>h.elim
 | d+1,v,cs,h=>by
  obtain⟨pn,pi,h1,h2,h3,h4,h5,h6,h7,h8⟩:=h;obtain⟨k,n,f,s,ns,its⟩:=v;rw[inV];refine⟨h2,h3,h4,inL_of9 fun i hi=>?_⟩;rcases h8 with ⟨h8,_⟩|⟨g,off,cap,a1,a2,a3⟩
  ·have h8:its=[]:=h8;rw[h8]at hi;simp at hi
  ·obtain⟨ds,b1,_⟩:=a3 i hi;exact b1.in9
mutual
theorem canV_can9:∀ v:VT,canV (canV v)=canV v
 | .mk k n f s ns its=>by rw[canV,canV,canon_canon,canL_can9 its]
theorem canL_can9:∀ l:List VT,canL (canL l)=canL l
 | []=>by rw[canL,canL]
 | x::l=>by rw[canL,canL,canV_can9 x,canL_can9 l]
end
theorem canC_can9 (c:CmdT):canC (canC c)=canC c:=by
 unfold canC;dsimp only;rw[canV_can9,canV_can9]
def zeroC:CmdT:=⟨0,0,0,0,0,noVT,noVT⟩
theorem zeroC_at (w:World):CmdAt w 1 zeroC #[.int .i64 0,.int .i64 0,.int .i64 0,.int .i64 0,.int .i64 0,.int .i64 0,.int .i64 0,.float .f64 0,.string ⟨#[]⟩,.slice none 0 0,.slice none 0 0,.int .i64 0,.int .i64 0,.float .f64 0,.string ⟨#[]⟩,.slice none 0 0,.slice none 0 0] :=
 ⟨_,_,_,_,_,_,_,_,rfl,noVT_at w 0,noVT_at w 0⟩
/-- what is read at a place: the command, the place behind it, the error -/
def resC (s:ByteArray) (k:Int):CmdT × Int × Int :=
 if k<0∨(s.size:Int)<k then(zeroC,0,3) else match cmdR (s.data.toList.drop k.toNat) with
  | some c=>(c.1,((s.size - c.2.length:Nat):Int),0)
  | none=>(zeroC,0,5)
def RdC (s:ByteArray) (k:Int) (w:World) (e:Ending) (w':World):Prop :=
 ∃ d cs,e=.returned (.tuple #[.agg cs,.int .i64 (resC s k).2.1,.int .i64 (resC s k).2.2])∧CmdAt w' d (resC s k).1 cs∧Below w.heap.size w w'
theorem CmdAt.form {w:World} {d:Nat} {c:CmdT} {cs:Array Value} (h:CmdAt w d c cs):∃ a0 a1 a2 a3 a4 a5 a6 a7 a8 a9 a10 a11 a12 a13 a14 a15 a16,cs=#[a0,a1,a2,a3,a4,a5,a6,a7,a8,a9,a10,a11,a12,a13,a14,a15,a16]:=by
 obtain⟨_,_,_,_,_,_,_,_,rfl,_⟩:=h;exact⟨_,_,_,_,_,_,_,_,_,_,_,_,_,_,_,_,_,rfl⟩
theorem pReadCmd_any (s:ByteArray) (hs:s.size≤1000000) (k:Int) (w:World):Calls Tryz.prog 8 #[.string s,.int .i64 k] w (RdC s k w):=by
 by_cases h:k<0∨(s.size:Int)<k
 ·have hr:resC s k=(zeroC,0,3):=if_pos h;unfold RdC;rw[hr];by_cases hn:k<0
  ·exact(pReadCmd_neg s k hn w).mono fun e w' ⟨h1,h2⟩=>⟨1,_,h1,zeroC_at w',h2⟩
  ·exact(pReadCmd_far s k hn (by omega) w).mono fun e w' ⟨h1,h2⟩=>⟨1,_,h1,zeroC_at w',h2⟩
 ·obtain⟨n,rfl⟩:∃ n:Nat,k=(n:Int):=⟨k.toNat,by omega⟩;have hr:resC s (n:Int)=match cmdR (s.data.toList.drop n) with
   | some c=>(c.1,((s.size - c.2.length:Nat):Int),0)
   | none=>(zeroC,0,5):=if_neg h
  refine(pReadCmd_in s (by omega) n (by omega) w).mono fun e w' hp=>?_
  unfold RdC;rw[hr];cases hc:cmdR (s.data.toList.drop n) with
  | none=>rw[hc]at hp;exact⟨1,_,hp.1,zeroC_at w',hp.2⟩
  | some c=>rw[hc]at hp;obtain⟨cs,h1,h2,h3⟩:=hp;exact⟨12,cs,h1,h2.at,h3⟩
theorem rReadCmd_any (s:ByteArray) (hs:s.size≤1000000) (k:Int) (w:World):Calls Tryz.prog 10 #[.string s,.int .i64 k] w (RdC s k w):=by
 by_cases h:k<0∨(s.size:Int)<k
 ·have hr:resC s k=(zeroC,0,3):=if_pos h;unfold RdC;rw[hr];exact(rReadCmd_off s k h w).mono fun e w' ⟨h1,h2⟩=>⟨1,_,h1,zeroC_at w',h2⟩
 ·obtain⟨n,rfl⟩:∃ n:Nat,k=(n:Int):=⟨k.toNat,by omega⟩;have hr:resC s (n:Int)=match cmdR (s.data.toList.drop n) with
   | some c=>(c.1,((s.size - c.2.length:Nat):Int),0)
   | none=>(zeroC,0,5):=if_neg h
  refine(rReadCmd_in s hs n (by omega) w).mono fun e w' hp=>?_
  unfold RdC;rw[hr];cases hc:cmdR (s.data.toList.drop n) with
  | none=>rw[hc]at hp;exact⟨1,_,hp.1,zeroC_at w',hp.2⟩
  | some c=>rw[hc]at hp;obtain⟨cs,h1,h2,h3⟩:=hp;exact⟨13,cs,h1,h2.at,h3⟩
/-- what is read behind what was written -/
theorem resC_enc (c:CmdT) (q:List UInt8) (a s:ByteArray) (hk:inV c.key) (hv:inV c.v) (h:cmdE c=some q) (S:ByteArray) (hS:S.data.toList=a.data.toList++(q++s.data.toList)):resC S (a.size:Int)=(canC c,((a.size:Int)+(q.length:Int)),0):=by
 have hL:a.data.toList.length=a.size:=by simp
 have hL2:s.data.toList.length=s.size:=by simp
 have hsz:S.size=a.size+(q.length+s.size):=by
  have:S.data.toList.length=S.size:=by simp
  rw[←this,hS];simp
 unfold resC;rw[if_neg (by omega)];rw[show((a.size:Int)).toNat=a.size by omega,hS,←hL,List.drop_left,cmdR_enc _ hk hv h];show(canC c,((S.size - s.data.toList.length:Nat):Int),(0:Int))=_;rw[hsz,hL2,hL];congr 2
 omega
end
section
open Go.RowKit
theorem rSmall13_any (a:CmdT) (d:Nat) (ca:Array Value) (w:World) (ha:CmdAt w d a ca):Calls Tryz.prog 5 #[.agg ca] w (Gives (.bool (smallB a.key&&smallB a.v)) w):=by
 obtain⟨k0,k1,k2,k3,k4,ak,av⟩:=a;obtain⟨p0,q0,r0,s0,p1,q1,r1,s1,rfl,hak,hav⟩:=ha;dsimp only at hak hav;have f0:=(Below.refl w.heap.size w).alloc (Nat.le_refl _) (.cells #[.int .i64 k0,.int .i64 k1,.int .i64 k2,.int .i64 k3,.int .i64 k4,.int .i64 ak.kind,.int .i64 ak.num,.float .f64 ak.flt,.string ⟨ak.str.toArray⟩,.slice p0 ak.names.length q0,.slice r0 ak.items.length s0,.int .i64 av.kind,.int .i64 av.num,.float .f64 av.flt,.string ⟨av.str.toArray⟩,.slice p1 av.names.length q1,.slice r1 av.items.length s1] 30);have h0:=heap_alloc_new w (.cells #[.int .i64 k0,.int .i64 k1,.int .i64 k2,.int .i64 k3,.int .i64 k4,.int .i64 ak.kind,.int .i64 ak.num,.float .f64 ak.flt,.string ⟨ak.str.toArray⟩,.slice p0 ak.names.length q0,.slice r0 ak.items.length s0,.int .i64 av.kind,.int .i64 av.num,.float .f64 av.flt,.string ⟨av.str.toArray⟩,.slice p1 av.names.length q1,.slice r1 av.items.length s1] 30);generalize hW1:w.alloc (.cells #[.int .i64 k0,.int .i64 k1,.int .i64 k2,.int .i64 k3,.int .i64 k4,.int .i64 ak.kind,.int .i64 ak.num,.float .f64 ak.flt,.string ⟨ak.str.toArray⟩,.slice p0 ak.names.length q0,.slice r0 ak.items.length s0,.int .i64 av.kind,.int .i64 av.num,.float .f64 av.flt,.string ⟨av.str.toArray⟩,.slice p1 av.names.length q1,.slice r1 av.items.length s1] 30)=W1 at *;have HK:=zh (rsmall_any _ _ _ W1 (hak.kept f0));have HV:=zh (fun(x:World) (h:Below W1.heap.size W1 x)=>rsmall_any _ _ _ x ((hav.kept f0).kept h));have HCA:=zh (fun(x:World) (h:Below W1.heap.size W1 x)=>(h.block _ (lt_of_block h0)).trans h0);have HW1:=zh hW1;clear hW1 hak hav;obtain⟨-,-,-,-,-,x5,x6,x7,x8,x9,x10,-⟩:=cells17 h0;clear h0;dsimp only;generalize smallB ak=bk at *;generalize smallB av=bv at *;go_in;go_upto_region 1 with (fail)
 rw[HW1.out];cases bk with
 | false =>
  go_wp2_with fail
  refine(HK.out).mono ?_;rintro e w3 ⟨rfl,b3⟩;go_wp2_with fail
  go_ret;exact⟨rfl,below_tr' f0 b3⟩
 | true =>
  go_wp2_with fail
  refine(HK.out).mono ?_;rintro e w3 ⟨rfl,b3⟩;have h0:=HCA.out w3 b3;obtain⟨-,-,-,-,-,-,-,-,-,-,-,x11,x12,x13,x14,x15,x16⟩:=cells17 h0;clear h0;go_wp2_with fail
  refine(HV.out w3 b3).mono ?_;rintro e w4 ⟨rfl,b4⟩;go_wp2_with fail
  go_ret;exact⟨rfl,below_tr' f0 (below_tr' b3 b4)⟩
end
section
open Go.RowKit
open Ev (gaveA closed_at noB noB_sound)
theorem pmodel_bad (s:ByteArray) (hp:∀ w:World,Calls Tryz.prog 67 #[.string s,.string ⟨#[66,80,77,49]⟩] w (Gave (.bool false) w)) (b:Nat) (w:World) (c0:w.cell? ⟨b,0,none⟩=some (.string s)) (hb:b<w.heap.size) :
  Calls Tryz.prog 38 #[.pointer (some ⟨b,0,none⟩)] w fun e w'=>e=gave 5∧Below w.heap.size w w':=by
 have HPf:=zh hp;clear hp;have HMn:=zh must_no;have f0:=(Below.refl w.heap.size w).alloc (Nat.le_refl _) (.cells #[.int .i64 0,.slice none 0 0,.slice none 0 0,.slice none 0 0,.slice none 0 0,.slice none 0 0] 50);have c1:(w.alloc (.cells #[.int .i64 0,.slice none 0 0,.slice none 0 0,.slice none 0 0,.slice none 0 0,.slice none 0 0] 50)).cell? ⟨b,0,none⟩=some (.string s):=(f0.cell (p:=⟨b,0,none⟩) hb).trans c0;generalize hW1:w.alloc (.cells #[.int .i64 0,.slice none 0 0,.slice none 0 0,.slice none 0 0,.slice none 0 0,.slice none 0 0] 50)=W1 at *;have HW1:=zh hW1;have F0:=zh f0;clear hW1 f0 c0;go_in;go_upto_region 1 with (fail)
 rw[HW1.out];go_wp2_with fail
 refine(HPf.out _).mono ?_;rintro e w1 ⟨rfl,b1⟩;go_wp2_with fail
 refine(HMn.out _).mono ?_;rintro e w2 ⟨rfl,rfl⟩;go_wp2_with fail
 exact⟨rfl,rfl,below_tr' F0.out b1⟩
theorem punpack_bad (s:ByteArray) (hs:s.size≤16384) (hp:∀ w:World,Calls Tryz.prog 67 #[.string s,.string ⟨#[66,80,77,49]⟩] w (Gave (.bool false) w)) (w:World) :
  Calls Tryz.prog 12 #[.string s] w (Gave (.tuple #[.agg #[.int .i64 0,.slice none 0 0,.slice none 0 0,.slice none 0 0,.slice none 0 0,.slice none 0 0],.int .i64 5]) w):=by
 have HM:=zh (fun b w c hb=>pmodel_bad s hp b w c hb);clear hp;have t1:decide ((16384:Int)<(s.size:Int))=false:=by simp;omega
 have t2:¬ 16384<s.size:=by omega
 have h0:=heap_alloc_new w (.cells #[.int .i64 0,.slice none 0 0,.slice none 0 0,.slice none 0 0,.slice none 0 0,.slice none 0 0] 50);have f0:=(Below.refl w.heap.size w).alloc (Nat.le_refl _) (.cells #[.int .i64 0,.slice none 0 0,.slice none 0 0,.slice none 0 0,.slice none 0 0,.slice none 0 0] 50);have hz1:(w.alloc (.cells #[.int .i64 0,.slice none 0 0,.slice none 0 0,.slice none 0 0,.slice none 0 0,.slice none 0 0] 50)).heap.size=w.heap.size+1:=by simp
 generalize hW1:w.alloc (.cells #[.int .i64 0,.slice none 0 0,.slice none 0 0,.slice none 0 0,.slice none 0 0,.slice none 0 0] 50)=W1 at *;have h1:=heap_alloc_new W1 (.cells #[.int .i64 0] 33);have f1:=(Below.refl W1.heap.size W1).alloc (Nat.le_refl _) (.cells #[.int .i64 0] 33);have hz2:(W1.alloc (.cells #[.int .i64 0] 33)).heap.size=w.heap.size+2:=by simp[hz1]
 generalize hW2:W1.alloc (.cells #[.int .i64 0] 33)=W2 at *;have h2:=heap_alloc_new W2 (.cells #[.string s,.int .i64 0] 68);have f2:=(Below.refl W2.heap.size W2).alloc (Nat.le_refl _) (.cells #[.string s,.int .i64 0] 68);generalize hW3:W2.alloc (.cells #[.string s,.int .i64 0] 68)=W3 at *;rw[hz1]at h1;rw[hz2]at h2;have h0:=(f2.block _ (by rw[hz2];omega)).trans ((f1.block _ (lt_of_block h0)).trans h0);have h1:=(f2.block _ (by rw[hz2];omega)).trans h1;have c0:W3.cell? ⟨w.heap.size+2,0,none⟩=some (.string s):=by rw[zc h2];rfl
 have hl:=lt_of_block h2;have F:=zh (below_tr' (below_tr' f0 f1) f2);have G0:=zh h0;have G1:=zh h1;have HMM:=zh (HM.out (w.heap.size+2) W3 c0 hl);have HL:=zh hl;have HW1:=zh hW1;have HW2:=zh hW2;have HW3:=zh hW3;clear hW1 hW2 hW3 h0 h1 h2 f0 f1 f2 hz1 hz2 hl HM c0;go_enter_defers Tryz.func12,Tryz.ntmps12
 go_wp2_with fail
 rw[HW1.out,HW2.out,HW3.out,show w.heap.size+1+1=w.heap.size+2 from rfl];refine(HMM.out).mono ?_;rintro e w1 ⟨rfl,b1⟩;have g0:=(b1.block _ (lt_of_block G0.out)).trans G0.out;have g1:=(b1.block _ (lt_of_block G1.out)).trans G1.out;have c0:w1.cell? ⟨w.heap.size+1,0,none⟩=some (.int .i64 0):=by rw[zc g1];rfl
 have z0:w1.frozen? ⟨w.heap.size+1,0,none⟩=false:=Lib.frozen_of_heap g1 0;have hbel:=below_tr' F.out b1;go_wp2_with fail
 refine leaves_cons (f:=21) (args:=#[.pointer (some ⟨w.heap.size+1,0,none⟩)]) (by simp) (by simp[go_sem]) ?_;refine(caught_up ⟨w.heap.size+1,0,none⟩ 5 0 _ c0 z0).mono ?_;rintro e u' w'' ⟨rfl,rfl,rfl⟩;have hc2:(w1.setCell ⟨w.heap.size+1,0,none⟩ (.int .i64 5)).cell? ⟨w.heap.size+1,0,none⟩=some (.int .i64 5):=World.cell?_setCell_same _ _ _ c0;have hbX:(w1.setCell ⟨w.heap.size+1,0,none⟩ (.int .i64 5)).heap[w.heap.size]?=some (.cells #[.int .i64 0,.slice none 0 0,.slice none 0 0,.slice none 0 0,.slice none 0 0,.slice none 0 0] 50 (0,0)):=(Below.heap_setCell _ _ _ _ (by simp)).trans g0;have hfin:Below w.heap.size w (w1.setCell ⟨w.heap.size+1,0,none⟩ (.int .i64 5)):=hbel.setCell (p:=⟨w.heap.size+1,0,none⟩) (by simp) _;generalize w1.setCell ⟨w.heap.size+1,0,none⟩ (.int .i64 5)=X at *;obtain⟨y0,y1,y2,y3,y4,y5⟩:=cells6 hbX;simp[Leaves,settle,results,Tryz.results12,go_sem,y0,y1,y2,y3,y4,y5,hc2];exact⟨rfl,hfin⟩
theorem hpf_BPM2:gaveA Tryz.prog idles noB 400 100 67 [.string ⟨#[66,80,77,50]⟩,.string ⟨#[66,80,77,49]⟩]=some (.bool false):=by kernel_rfl
theorem unpack_BPM2 (w:World):Calls Tryz.prog 12 #[.string ⟨#[66,80,77,50]⟩] w (Gave (.tuple #[.agg #[.int .i64 0,.slice none 0 0,.slice none 0 0,.slice none 0 0,.slice none 0 0,.slice none 0 0],.int .i64 5]) w) :=
 punpack_bad _ (by decide) (fun w=>closed_at idles_ok (fun _=>noB_sound) hpf_BPM2 w) w
end
section
open Go.RowKit
open Ev (orB orB_sound givenE given_ok gaveK closed_known CallE CallOK)
noncomputable abbrev known13:CallE:=orB builders (givenE 12 [.string ⟨#[66,80,77,50]⟩] (.tuple #[.agg #[.int .i64 0,.slice none 0 0,.slice none 0 0,.slice none 0 0,.slice none 0 0,.slice none 0 0],.int .i64 5]))
theorem known13_ok (N0:Nat):CallOK Tryz.prog N0 known13:=orB_sound (builders_ok N0) (given_ok (by kernel_rfl) (by kernel_rfl) unpack_BPM2 N0)
theorem gave13:gaveK Tryz.prog idles known13 400 100 4=some true:=by kernel_rfl
theorem awake13 (w:World):Calls Tryz.prog 4 #[] w (Gave (.bool true) w):=closed_known idles_ok known13_ok gave13 w
end
section
open Go.RowKit
/-- v reads as the bytes l, lies in a row from base on, and its spare cells can be written -/
def Acc (base:Nat) (w:World) (v:Value) (l:List UInt8):Prop :=
 ∃ g cap,v=.slice (some ⟨g,0,none⟩) l.length cap∧base≤g∧g<w.heap.size∧l.length≤cap∧(∀ j u,(Lib.byteCells l)[j]?=some u→w.cell? ⟨g,0+j,none⟩=some u) ∧
  ∀ j,j<cap - l.length→(w.cell? ⟨g,l.length+j,none⟩).isSome=true∧w.frozen? ⟨g,l.length+j,none⟩=false
theorem byteCells_len (l:List UInt8):(Lib.byteCells l).length=l.length:=by unfold Lib.byteCells;simp
theorem Acc.kept {base:Nat} {w w':World} {v:Value} {l:List UInt8} (h:Acc base w v l) (hb:Below w.heap.size w w'):Acc base w' v l:=by
 obtain⟨g,cap,h1,h2,h3,h4,h5,h6⟩:=h;exact⟨g,cap,h1,h2,Nat.lt_of_lt_of_le h3 hb.size,h4,fun j u hu=>(hb.cell (p:=⟨g,0+j,none⟩) h3).trans (h5 j u hu),fun j hj=>by
  rw[hb.cell (p:=⟨g,l.length+j,none⟩) h3,hb.frozen (p:=⟨g,l.length+j,none⟩) h3];exact h6 j hj⟩
theorem Acc.own {base B:Nat} {w:World} {v:Value} {l:List UInt8} {e:TypeId} (h:w.ownsRow B e 1 v l.length (Lib.byteCells l)) (hl:l≠[]) (hB:base≤B):Acc base w v l:=by
 rcases h.2 with ⟨_,h0⟩|⟨g,cap,cur,hv,hb,hg,hn,_,hs,ht⟩
 ·exact absurd (List.length_eq_zero_iff.1 h0) hl
 ·have hlt:g<w.heap.size:=(Array.getElem?_eq_some_iff.1 hg).1;refine⟨g,cap,hv,by omega,hlt,hn,fun j u hu=>?_,fun j hj=>?_⟩
  ·have:=h.cells (g:=g) (by rw[hv];rfl) j u hu;rwa [Addr.add_lit]at this
  ·constructor
   ·rw[zc hg,Array.getElem?_eq_getElem (by omega)];rfl
   ·exact Lib.frozen_of_heap hg _
theorem Acc.bytes (w:World) (e:TypeId) (s:ByteArray):Acc w.heap.size (Lib.bytesWorld w e s) (.slice (some ⟨w.heap.size,0,none⟩) s.size (grownCap w s.size 0 e)) s.data.toList:=by
 have hl:s.data.toList.length=s.size:=by simp
 have hnew:=Lib.bytesWorld_at_new w e s;have hsz:(Lib.bytesCells w e s).size=grownCap w s.size 0 e:=by
  unfold Lib.bytesCells;have:=grownCap_ge w s.size 0 e;simp;omega
 refine⟨w.heap.size,grownCap w s.size 0 e,by rw[hl],Nat.le_refl _,by rw[Lib.bytesWorld_size];omega,by rw[hl];exact grownCap_ge _ _ _ _,fun j u hu=>?_,fun j hj=>?_⟩
 ·have hj:j<s.size:=by
   have:=(List.getElem?_eq_some_iff.1 hu).1;rw[byteCells_len]at this;omega
  rw[Nat.zero_add,Lib.bytesWorld_cell w e s j hj,←hu];unfold Lib.byteCells;rw[List.getElem?_map,List.getElem?_eq_getElem (by omega)];simp[List.getD,hj]
 ·rw[hl]at hj ⊢
  constructor
  ·rw[zc hnew,Array.getElem?_eq_getElem (by omega)];rfl
  ·unfold World.frozen?;rw[hnew];simp only[hsz];simp;try omega
theorem wpList_append_acc {P:Program} (w:World) {ops:Array Oper} {rest:List Oper} {o:Oper} {a:Act} {Q:Exit→Act→World→Prop}
  (hg:o.guard=none) (s x:Operand) (t:TypeId) (hop:o.op=Op.call { callee:=Callee.builtin Builtin.append,args:=#[s,x],argTypes:=#[t,t] })
  (e:TypeId) (i:TypeInfo) (z:Value) (h1:P.underlying t=some (.slice e)) (h2:P.info? e=some i) (h3:i.zero=some z) (h4:i.size=1) (h5:i.bytes=1) (h6:z.cells.size=1)
  {base:Nat} {v:Value} {l:List UInt8} (hs:a.eval s=v) (h:Acc base w v l) (hl:l.length≤1000000) (hbase:base≤w.heap.size)
  (ad:Addr) (c:Nat) (b:UInt8) (hx:a.eval x=.slice (some ad) 1 c) (hc:∀ j u,[Value.int .u8 (b.toNat:Int)][j]?=some u→w.cell? (ad.add j)=some u)
  (hK:∀ v' w',Acc base w' v' (l++[b])→Below base w w'→wpList P ops Q rest (a.put o.dst v') w') :
  wpList P ops Q (o::rest) a w:=by
 obtain⟨g,cap,hv,hb,hlt,hn,hcs,hsp⟩:=h;have happ:Lib.byteCells l++[Value.int .u8 (b.toNat:Int)]=Lib.byteCells (l++[b]):=by unfold Lib.byteCells;simp
 have hlen1:(l++[b]).length=l.length+1:=by simp
 refine wpList_append_arg w hg s x t hop e i z 1 1 h1 h2 h3 h4 h5 h6 (by omega) g 0 l.length cap (Lib.byteCells l) (hs.trans hv) (by rw[byteCells_len];omega) hcs ad 1 c [.int .u8 (b.toNat:Int)] hx rfl hc (fun u hu=>?_) (fun hr j hj=>?_) (by unfold maxLen;omega) (by omega) (fun hr=>?_) (fun hr v' w' hown hgr=>?_)
 ·simp at hu;subst hu;rfl
 ·simp at hj;subst hj;have:=hsp 0 (by omega);simpa using this
 ·have hsp0:=hsp 0 (by omega);have e0:0+l.length*1=l.length:=by omega
  rw[e0];have hpc:(w.cell? ⟨g,l.length,none⟩).isSome=true:=hsp0.1;have hB:Below base w (w.setCells g l.length [Value.int .u8 (b.toNat:Int)]):=(Below.refl _ _).setCell hb _;refine hK _ _ ⟨g,cap,by rw[hlen1],hb,Nat.lt_of_lt_of_le hlt hB.size,by omega,fun j u hu=>?_,fun j hj=>?_⟩ hB
  ·rw[←happ]at hu;rw[Nat.zero_add];by_cases hj:j=l.length
   ·subst hj;rw[List.getElem?_append_right (by rw[byteCells_len];omega),byteCells_len]at hu;simp at hu;subst hu;exact World.cell?_setCells_in g [Value.int .u8 (b.toNat:Int)] l.length w (fun j hj=>by simp at hj;subst hj;exact hpc) 0 (by simp)
   ·have hj2:j<l.length:=by
     have:=(List.getElem?_eq_some_iff.1 hu).1;rw[List.length_append,byteCells_len]at this;simp at this;omega
    rw[List.getElem?_append_left (by rw[byteCells_len];omega)]at hu;rw[World.cell?_setCells_out g _ _ w ⟨g,j,none⟩ (fun _ _=>.inl hj2)];have:=hcs j u hu;rwa [Nat.zero_add]at this
  ·rw[hlen1]at hj ⊢
   have:=hsp (1+j) (by omega);rw[show l.length+(1+j)=l.length+1+j by omega]at this;rw[World.cell?_setCells_out g _ _ w ⟨g,l.length+1+j,none⟩ (fun _ _=>.inr (by simp)),World.frozen?_setCells];exact this
 ·rw[happ,←hlen1]at hown;have hgb:Below base w w':=⟨hgr.os,hgr.tape,hgr.output,hgr.size,fun k hk=>hgr.block k (by omega) (by simp)⟩;exact hK v' w' (Acc.own hown (by simp) hbase) hgb
end
section
open Go.RowKit
theorem rUint_any (n:Nat) (hn:n<18446744073709551616) (w:World):Calls Tryz.prog 50 #[.int .u64 (n:Int)] w (Gives (.string ⟨(uintS n).toArray⟩) w):=by
 have HI:(Tryz.prog.info? 5).map (fun i=>(i.zero,i.size,i.bytes))=some (some (.int .u8 0),1,1):=by kernel_rfl
 obtain⟨i0,hi,hz0,hz1,hz2⟩:=Go.info_parts HI;have HII:=zh hi;have HZ0:=zh hz0;have HZ1:=zh hz1;have HZ2:=zh hz2;clear hi hz0 hz1 hz2 HI;have hB0:Below w.heap.size w (w.alloc (.cells #[] 5)):=(Below.refl _ _).alloc (Nat.le_refl _) _;have hT0:(w.alloc (.cells #[] 5)).ownsRow w.heap.size 5 1 (.slice (some ⟨w.heap.size,0,none⟩) 0 0) 0 []:=World.ownsRow_lit w #[] 0 (Nat.le_refl _) (by unfold maxLen;omega) rfl;generalize hgh:w.heap.size=H at *;have HH:=zh hgh;clear hgh;have HCv:=zh (fun(g cap:Nat) (o:List UInt8) (w:World) hc=>run_convert_bytes_back (P:=Tryz.prog) w 83 9 5 ⟨g,0,none⟩ cap o Tryz.underlying83 Tryz.underlying5 Tryz.underlying9 hc);go_in;go_wp2_with fail
 rw[HH.out];generalize w.alloc (.cells #[] 5)=W0 at *;have hsz0:H≤W0.heap.size:=by have:=hB0.size;rw[HH.out]at this;exact this
 go_loopw [0,3] (fun nv xv wr=>∃ (m f:Nat) (q:List UInt8) (v:Value),nv=.int .u64 (m:Int)∧m≤n∧m<2*128 ^ f∧f≤9∧q.length+f=9∧Hid (uintS n=q++uintB (f+1) m)∧v=xv∧wr.ownsRow H 5 1 v q.length (Lib.byteCells q)∧Below H w wr) (fun nv _ _=>(intOf nv).toNat)
 case atStart=>exact⟨n,9,[],_,rfl,Nat.le_refl _,by simpa using hn,by omega,rfl,rfl,rfl,hT0,hB0⟩
 case round =>
  obtain⟨m,f,q,x,rfl,hmn,hm,hf,hq,hO,rfl,hT,hB⟩:=hrel;have hHw:H≤wr.heap.size:=by have:=hB.size;rw[HH.out]at this;exact this
  by_cases h1:128≤m
  ·have t1:decide ((128:Int)≤(m:Int))=true:=by simp;omega
   have m0:(m:Int)≠0:=by omega
   obtain⟨f,rfl⟩:∃ g,f=g+1:=⟨f - 1,by
    rcases f with _|f
    ·simp at hm;omega
    ·omega⟩
   have hm2:m / 128<2*128 ^ f:=by rw[Nat.pow_succ]at hm;omega
   have HS:=zh (uintB_big (f:=f+1) h1);have hc:((m:Int) % 128+128)=((UInt8.ofNat (m % 128+128)).toNat:Int):=by simp[UInt8.toNat_ofNat'];omega
   have HC:=zh hc;have wq:IntKind.u64.wrap ((m:Int) / 128)=((m / 128:Nat):Int):=by rw[IntKind.wrap_u64];omega
   clear hm hc;have hT1:=World.ownsRow.alloc hT (.cells #[.int .u8 ((m:Int) % 128+128)] 5);have hHw1:H≤(wr.alloc (.cells #[.int .u8 ((m:Int) % 128+128)] 5)).heap.size:=by simp;omega
   have hB1:=hB.alloc hHw (.cells #[.int .u8 ((m:Int) % 128+128)] 5);go_wp2_with (at_builtin;refine wpList_append_own _ rfl _ _ 83 rfl H 5 i0 (.int .u8 0) 1 1 Tryz.underlying83 HII.out HZ0.out HZ1.out HZ2.out rfl (by decide) x q.length (Lib.byteCells q) rfl hT1 ⟨wr.heap.size,0,none⟩ 1 1 [.int .u8 ((m:Int) % 128+128)] rfl rfl ?c1 ?c2 ?c3 ?c4 hHw1 ?_)
   case c1 =>
    intro j u hj;match j,hj with
    | 0,hj=>simp at hj;subst hj;simp[Addr.add]
   case c2=>intro u hu;simp at hu;subst hu;rfl
   case c3=>unfold maxLen;omega
   case c4=>omega
   intro v' w3 hown' hgrow hnil;have hB3:=hB1.grown hgrow hHw1 (fun g hg=>(World.ownsRow.lt hT1 g hg).1);have hT3:w3.ownsRow H 5 1 v' (q++[UInt8.ofNat (m % 128+128)]).length (Lib.byteCells (q++[UInt8.ofNat (m % 128+128)])):=by
    rw[List.length_append,Lib.byteCells_append];rw[HC.out]at hown';exact hown'
   clear hT hB hT1 hB1 hgrow hown' hnil;go_wp2_with fail
   go_roundw
   case rel=>exact⟨m / 128,f,q++[UInt8.ofNat (m % 128+128)],v',by go_num,by omega,hm2,by omega,by simp;omega,by show _=_;rw[hO.out,HS.out,List.append_assoc];rfl,rfl,hT3,hB3⟩
   case measure=>simp[intOf];omega
  ·have t1:decide ((128:Int)≤(m:Int))=false:=by simp;omega
   have HS:=zh (uintB_small (f:=f) (show m<128 by omega));have hc:(m:Int)=((UInt8.ofNat m).toNat:Int):=by simp[UInt8.toNat_ofNat'];omega
   have HC:=zh hc;have m1:(m:Int) % 256=(m:Int):=by omega
   clear hm hc;have hT1:=World.ownsRow.alloc hT (.cells #[.int .u8 (m:Int)] 5);have hHw1:H≤(wr.alloc (.cells #[.int .u8 (m:Int)] 5)).heap.size:=by simp;omega
   have hB1:=hB.alloc hHw (.cells #[.int .u8 (m:Int)] 5);go_wp2_with (at_builtin;refine wpList_append_own _ rfl _ _ 83 rfl H 5 i0 (.int .u8 0) 1 1 Tryz.underlying83 HII.out HZ0.out HZ1.out HZ2.out rfl (by decide) x q.length (Lib.byteCells q) rfl hT1 ⟨wr.heap.size,0,none⟩ 1 1 [.int .u8 (m:Int)] rfl rfl ?c1 ?c2 ?c3 ?c4 hHw1 ?_)
   case c1 =>
    intro j u hj;match j,hj with
    | 0,hj=>simp at hj;subst hj;simp[Addr.add]
   case c2=>intro u hu;simp at hu;subst hu;rfl
   case c3=>unfold maxLen;omega
   case c4=>omega
   intro v' w3 hown' hgrow hnil;have hB3:=hB1.grown hgrow hHw1 (fun g hg=>(World.ownsRow.lt hT1 g hg).1);have hT3:w3.ownsRow H 5 1 v' (q++[UInt8.ofNat m]).length (Lib.byteCells (q++[UInt8.ofNat m])):=by
    rw[List.length_append,Lib.byteCells_append];rw[show Value.int .u8 (m:Int)=.int .u8 ((UInt8.ofNat m).toNat:Int) from congrArg _ HC.out]at hown';exact hown'
   obtain⟨g,cap,rfl⟩:∃ g cap,v'=.slice (some ⟨g,0,none⟩) (q++[UInt8.ofNat m]).length cap:=by
    rcases hT3.2 with ⟨_,h0⟩|⟨g,cap,cur,hv,_⟩
    ·simp at h0
    ·exact⟨g,cap,hv⟩
   have hcv:=HCv.out g cap (q++[UInt8.ofNat m]) w3 (fun j hj=>by
    refine hT3.cells (g:=g) rfl j _ ?_;unfold Lib.byteCells;rw[List.getElem?_map,List.getElem?_eq_getElem hj];rfl)
   have HX:=zh (show q++[UInt8.ofNat m]=uintS n from by rw[hO.out,HS.out]);clear hT hB hT1 hB1 hgrow hown' hnil hT3;generalize q++[UInt8.ofNat m]=o at *;go_wp2_with fail
   go_ret;exact⟨ret_val (by rw[HX.out];rfl),by rw[HH.out];exact hB3⟩
theorem bytes_app (a b:List UInt8):(⟨a.toArray⟩:ByteArray)++⟨b.toArray⟩=⟨(a++b).toArray⟩:=by
 apply ByteArray.ext
 simp
theorem rInt_any (n:Int) (h1 : -9223372036854775808≤n) (h2:n≤9223372036854775807) (w:World):Calls Tryz.prog 120 #[.int .i64 n] w (Gives (.string ⟨(uintS (zig n)).toArray⟩) w):=by
 by_cases h:n<0
 ·have t1:decide (n<0)=true:=decide_eq_true h;obtain⟨k,hk⟩:∃ k:Nat,-1 - n=(k:Int):=⟨(-1 - n).toNat,by omega⟩;have hz:zig n=k*2+1:=by unfold zig;rw[if_pos h];omega
  have w1:IntKind.i64.wrap (-1 - n)=(k:Int):=by rw[IntKind.wrap_i64];omega
  have w2:IntKind.u64.wrap (k:Int)=(k:Int):=by rw[IntKind.wrap_u64];omega
  have w3:IntKind.u64.wrap ((k:Int)*2)=(k:Int)*2:=by rw[IntKind.wrap_u64];omega
  have w4:IntKind.u64.wrap ((k:Int)*2+1)=((k*2+1:Nat):Int):=by rw[IntKind.wrap_u64];omega
  have HU:=zh (fun w=>rUint_any (k*2+1) (by omega) w);have HZ:=zh hz;clear hz hk h h1 h2;generalize k*2+1=m at *;go_in;go_wp2_with fail
  refine(HU.out _).mono ?_;rintro e w' ⟨rfl,hb⟩;go_wp2_with fail
  go_ret;exact⟨ret_val (by rw[HZ.out];rfl),hb⟩
 ·have t1:decide (n<0)=false:=decide_eq_false h;obtain⟨k,rfl⟩:∃ k:Nat,n=(k:Int):=⟨n.toNat,by omega⟩;have hz:zig (k:Int)=k*2:=by unfold zig;rw[if_neg h];omega
  have w2:IntKind.u64.wrap (k:Int)=(k:Int):=by rw[IntKind.wrap_u64];omega
  have w3:IntKind.u64.wrap ((k:Int)*2)=((k*2:Nat):Int):=by rw[IntKind.wrap_u64];omega
  have HU:=zh (fun w=>rUint_any (k*2) (by omega) w);have HZ:=zh hz;clear hz h1 h2;generalize k*2=m at *;go_in;go_wp2_with fail
  refine(HU.out _).mono ?_;rintro e w' ⟨rfl,hb⟩;go_wp2_with fail
  go_ret;exact⟨ret_val (by rw[HZ.out];rfl),hb⟩
theorem rStr_any (l:List UInt8) (hl:l.length≤1000000000) (w:World):Calls Tryz.prog 122 #[.string ⟨l.toArray⟩] w (Gives (.string ⟨(strE l).toArray⟩) w):=by
 have hs:(⟨l.toArray⟩:ByteArray).size=l.length:=by show l.toArray.size=_;simp
 have w2:IntKind.u64.wrap (l.length:Int)=(l.length:Int):=by rw[IntKind.wrap_u64];omega
 have HU:=zh (fun w=>rUint_any l.length (by omega) w);have HX:=zh (show(⟨(uintS l.length).toArray⟩:ByteArray)++⟨l.toArray⟩=⟨(strE l).toArray⟩ from bytes_app _ _);have hno:¬ 9223372036854775807<(uintS l.length).length+l.length:=by have:=uintS_len l.length;omega
 clear hl;go_in;go_wp2_with fail
 refine(HU.out _).mono ?_;rintro e w' ⟨rfl,hb⟩;go_wp2_with fail
 go_ret;exact⟨ret_val (congrArg Value.string HX.out),hb⟩
end
section
open Go.RowKit
theorem cat_list (a b:ByteArray):(a++b).data.toList=a.data.toList++b.data.toList:=by simp
theorem ba_of {r:ByteArray} {l:List UInt8} (h:l=r.data.toList):r=⟨l.toArray⟩:=by
 apply ByteArray.ext;rw[h]
theorem rightV_names {v:VT} {far:Nat} (h:rightV v (far+1)=true) (hk:v.kind=6):v.names.length=v.items.length∧∀ s ∈ v.names,s.length≤30:=by
 rw[right6 hk,Bool.and_eq_true,Bool.and_eq_true,Bool.and_eq_true,decide_eq_true_eq]at h;exact⟨h.1,rises_len h.2.1⟩
theorem rightV_all {v:VT} {far:Nat} (h:rightV v (far+1)=true) (hk:v.kind=5∨v.kind=6):∀ i,i<v.items.length→rightV (v.items.getD i noVT) far=true:=by
 intro i hi;have hm:v.items.getD i noVT ∈ v.items:=by simp[List.getD,hi]
 rcases hk with hk|hk
 ·rw[right5 hk,Bool.and_eq_true,Bool.and_eq_true]at h;exact rightL_mem h.2.2 _ hm
 ·rw[right6 hk,Bool.and_eq_true,Bool.and_eq_true,Bool.and_eq_true]at h;exact rightL_mem h.2.2.2 _ hm
theorem rEnc_step (d:Nat) (v:VT) (cs:Array Value) (far:Nat) (w:World)
  (ih:∀ (v:VT) (cs:Array Value) (far:Nat) (w:World),ValAt w d v cs→rightV v far=true→(encV v).length≤8000000→Calls Tryz.prog 82 #[.agg cs] w (Gives (.string ⟨(encV v).toArray⟩) w))
  (h:ValAt w (d+1) v cs) (hr:rightV v (far+1)=true) (hlen:(encV v).length≤8000000):Calls Tryz.prog 82 #[.agg cs] w (Gives (.string ⟨(encV v).toArray⟩) w):=by
 have HI:(Tryz.prog.info? 5).map (fun i=>(i.zero,i.size,i.bytes))=some (some (.int .u8 0),1,1):=by kernel_rfl
 obtain⟨i0,hi,hz0,hz1,hz2⟩:=Go.info_parts HI;have HII:=zh hi;have HZ0:=zh hz0;have HZ1:=zh hz1;have HZ2:=zh hz2;clear hi hz0 hz1 hz2 HI;have HCv:=zh (fun(g cap:Nat) (o:List UInt8) (w:World) hc=>run_convert_bytes_back (P:=Tryz.prog) w 83 9 5 ⟨g,0,none⟩ cap o Tryz.underlying83 Tryz.underlying5 Tryz.underlying9 hc);obtain⟨pp,pc,p,cap,hca⟩:=h.sixS;have hia:=h.boxes hca;obtain⟨hsa,hF,hNb⟩:=h.strs hca;obtain⟨⟨kA1,kA2⟩,hX1,hX2⟩:=h.ints;have hkd:=right_kind hr;have he1:=fun k=>enc1 (v:=v) k
 have he2:=fun k=>enc2 (v:=v) k
 have he3:=fun k=>enc3 (v:=v) k
 have he4:=fun k=>enc4 (v:=v) k
 have he5:=fun k=>enc5 (v:=v) k
 have he6:=fun k=>enc6 (v:=v) k
 have hx1:v.kind=1→v.num=0∨v.num=1:=fun k=>by
  rw[right1 k,Bool.and_eq_true,decide_eq_true_eq]at hr;exact hr.2
 have hsl:v.kind=4→v.str.length≤1000000000:=fun k=>by
  rw[right4 k,Bool.and_eq_true,decide_eq_true_eq]at hr;omega
 have hsl2:v.kind=4→v.str.length≤200:=fun k=>by
  rw[right4 k,Bool.and_eq_true,decide_eq_true_eq]at hr;omega
 have hnm:=fun k=>rightV_names hr k
 have hnr:=hsa.row;have hall:=fun k=>rightV_all hr k
 have hd5:=fun i (hi:i<v.items.length)=>encL_drop5 (its:=v.items) (ns:=v.names) (i:=i) hi
 have hd6:=fun i (hi:i<v.items.length) (hn:i<v.names.length)=>encL_drop6 (its:=v.items) (ns:=v.names) (i:=i) hi hn
 have hend:=fun b i (hi:v.items.length≤i)=>encL_end (named:=b) (its:=v.items) (ns:=v.names.drop i) (i:=i) hi
 have hrn:=fun(k:v.kind=6) (x:World) (hx:Below w.heap.size w x)=>(show ∀ i,i<v.names.length→∃ g off,pp=some ⟨g,off,none⟩∧x.cell? ⟨g,off+i,none⟩=some (.string ⟨(v.names.getD i []).toArray⟩)∧(v.names.getD i []).length≤30 from by
  intro i hi;obtain⟨p',c',hv,_,hc⟩:=(hsa.kept hx).row;injection hv with hv _ _
  obtain⟨g,off,hg,hcell⟩:=hc i hi;exact⟨g,off,by rw[hv,hg],hcell,(hnm k).2 _ (by simp[List.getD,hi])⟩)
 subst hca;clear h hr hsa hnr;have HCa:=zh (fun w=>rcanon_any v.flt w);have hSS:(⟨v.str.toArray⟩:ByteArray)=⟨v.str.toArray⟩:=rfl;generalize hSg:(⟨v.str.toArray⟩:ByteArray)=S at *;have HSS:=zh hSg.symm;clear hSg hSS;generalize v.kind=K at *;generalize v.num=X at *;generalize v.flt=fa at *;generalize v.str=sl at *;generalize v.names=ns at *;generalize v.items=its at *;generalize ns.length=M at *;generalize its.length=N at *;have HE1:=zh he1;have HE2:=zh he2;have HE3:=zh he3;have HE4:=zh he4;have HE5:=zh he5;have HE6:=zh he6;have HX:=zh hx1;have HSl:=zh hsl;have HSl2:=zh hsl2;have HNm:=zh hnm;have HAl:=zh hall;have HD5:=zh hd5;have HD6:=zh hd6;have HEnd:=zh hend;have hB:Below w.heap.size w (w.alloc (.cells #[.int .i64 K,.int .i64 X,.float .f64 fa,.string S,.slice pp M pc,.slice p N cap] 28)):=(Below.refl _ _).alloc (Nat.le_refl _) _;have hnA:(w.alloc (.cells #[.int .i64 K,.int .i64 X,.float .f64 fa,.string S,.slice pp M pc,.slice p N cap] 28)).heap[w.heap.size]?=some (.cells #[.int .i64 K,.int .i64 X,.float .f64 fa,.string S,.slice pp M pc,.slice p N cap] 28 (0,0)):=heap_alloc_new w _;have HBl:=zh (fun x (h:Below (w.alloc (.cells #[.int .i64 K,.int .i64 X,.float .f64 fa,.string S,.slice pp M pc,.slice p N cap] 28)).heap.size (w.alloc (.cells #[.int .i64 K,.int .i64 X,.float .f64 fa,.string S,.slice pp M pc,.slice p N cap] 28)) x)=>(show x.heap[w.heap.size]?=some (.cells #[.int .i64 K,.int .i64 X,.float .f64 fa,.string S,.slice pp M pc,.slice p N cap] 28 (0,0)) from(h.block _ (lt_of_block hnA)).trans hnA));have HIA:=zh (fun i (hi:i<N) x (h:Below (w.alloc (.cells #[.int .i64 K,.int .i64 X,.float .f64 fa,.string S,.slice pp M pc,.slice p N cap] 28)).heap.size (w.alloc (.cells #[.int .i64 K,.int .i64 X,.float .f64 fa,.string S,.slice pp M pc,.slice p N cap] 28)) x)=>(show ∃ g off,p=some ⟨g,off,none⟩∧∃ ds,ValAt x d (its.getD i noVT) ds∧x.cell? ⟨g,off+i*6+0,none⟩=ds[0]?∧x.cell? ⟨g,off+i*6+1,none⟩=ds[1]?∧x.cell? ⟨g,off+i*6+2,none⟩=ds[2]?∧x.cell? ⟨g,off+i*6+3,none⟩=ds[3]?∧x.cell? ⟨g,off+i*6+4,none⟩=ds[4]?∧x.cell? ⟨g,off+i*6+5,none⟩=ds[5]? from by
  obtain⟨g,off,h1,h2,ds,h3,h4⟩:=hia i hi;have hx:=hB.trans (h.mono hB.size);have hc:=fun j (hj:j<6)=>(hx.cell (p:=⟨g,off+i*6+j,none⟩) h2).trans (h4 j hj)
  exact⟨g,off,h1,ds,h3.kept hx,hc 0 (by omega),hc 1 (by omega),hc 2 (by omega),hc 3 (by omega),hc 4 (by omega),hc 5 (by omega)⟩))
 have HRn:=zh (fun(k:K=6) x (h:Below (w.alloc (.cells #[.int .i64 K,.int .i64 X,.float .f64 fa,.string S,.slice pp M pc,.slice p N cap] 28)).heap.size (w.alloc (.cells #[.int .i64 K,.int .i64 X,.float .f64 fa,.string S,.slice pp M pc,.slice p N cap] 28)) x)=>hrn k x (hB.trans (h.mono hB.size)));have IH:=zh ih;clear hnA hia ih he1 he2 he3 he4 he5 he6 hx1 hsl hsl2 hnm hall hd5 hd6 hend hrn;have hkb:IntKind.u8.wrap K=((UInt8.ofNat K.toNat).toNat:Int):=by
  rcases hkd with h|h|h|h|h|h<;>rw[h]<;>rfl
 have HKd:=zh hkd;clear hkd;generalize hk0:UInt8.ofNat K.toNat=k0 at *;have HK0:=zh hk0;clear hk0;generalize hgh:w.heap.size=H at *;have HH:=zh hgh;clear hgh;go_in;go_upto_region 1 with (fail)
 rw[HH.out];generalize w.alloc (.cells #[.int .i64 K,.int .i64 X,.float .f64 fa,.string S,.slice pp M pc,.slice p N cap] 28)=W1 at *;have nA:=(HBl.out _ (Below.refl _ _));obtain⟨a0,a1,a2,a3,a4,a5⟩:=cells6 nA;clear nA;have hcv:=HCv.out W1.heap.size 1 [k0] (W1.alloc (.cells #[.int .u8 (k0.toNat:Int)] 5)) (fun j hj=>by
  have hj0:j=0:=by simp at hj;exact hj
  subst hj0;rw[Addr.add_lit,zc (heap_alloc_new _ _)];rfl)
 rw[show [k0].length=1 from rfl]at hcv;obtain⟨S0,hS0⟩:∃ s,s=(⟨[k0].toArray⟩:ByteArray):=⟨_,rfl⟩;rw[←hS0]at hcv;have hS0s:S0.size≤1:=by rw[hS0];exact Nat.le_refl 1
 have HS0d:=zh (show S0.data.toList=[k0] from by rw[hS0]);have HS0:=zh hS0;clear hS0;go_upto_region 2 with (fail)
 clear hcv a0 a1 a2 a3 a4 a5;have hB2:Below W1.heap.size W1 (W1.alloc (.cells #[.int .u8 (k0.toNat:Int)] 5)):=(Below.refl _ _).alloc (Nat.le_refl _) _;generalize W1.alloc (.cells #[.int .u8 (k0.toNat:Int)] 5)=W2 at *;have nA:=(HBl.out _ hB2);obtain⟨a0,a1,a2,a3,a4,a5⟩:=cells6 nA;clear nA;clear hkb;have HG:=zh hB2.size;by_cases k1:K=1
 ·subst k1;have hE:=HE1.out rfl;have hc2:IntKind.u8.wrap X=((UInt8.ofNat X.toNat).toNat:Int):=by
   rcases HX.out rfl with h|h<;>rw[h]<;>rfl
  generalize UInt8.ofNat X.toNat=c2 at *;have hcv:=HCv.out W2.heap.size 1 [c2] (W2.alloc (.cells #[.int .u8 (c2.toNat:Int)] 5)) (fun j hj=>by
   have hj0:j=0:=by simp at hj;exact hj
   subst hj0;rw[Addr.add_lit,zc (heap_alloc_new _ _)];rfl)
  rw[show [c2].length=1 from rfl]at hcv;obtain⟨S2,hS2⟩:∃ s,s=(⟨[c2].toArray⟩:ByteArray):=⟨_,rfl⟩;rw[←hS2]at hcv;have hz:S2.size=1:=by rw[hS2];rfl
  have hno:¬ 9223372036854775807<S0.size+S2.size:=by have:=hS0s;omega
  have HS2:=zh hS2;have HE:=zh hE;clear hS2 hz hE;go_wp2_with fail
  go_ret;exact⟨ret_val (congrArg Value.string (ba_of (by rw[HE.out,cat_list,HS0.out,HS2.out,←HK0.out];rfl))),by rw[HH.out];exact hB.trans ((hB2.alloc hB2.size _).mono (by have:=hB.size;rw[HH.out]at this;exact this))⟩
 by_cases k2:K=2
 ·clear k1;subst k2;have hE:=HE2.out rfl;have HI:=zh (fun w=>rInt_any X hX1 hX2 w);have hz:=uintS_len (zig X);obtain⟨S2,hS2⟩:∃ s,s=(⟨(uintS (zig X)).toArray⟩:ByteArray):=⟨_,rfl⟩;have hz2:S2.size=(uintS (zig X)).length:=by rw[hS2];show(uintS (zig X)).toArray.size=_;simp
  have hno:¬ 9223372036854775807<S0.size+S2.size:=by have:=hS0s;omega
  replace HI:=zh (fun w=>(show Calls Tryz.prog 120 #[.int .i64 X] w (Gives (.string S2) w) from by rw[hS2];exact HI.out w));have HS2:=zh hS2;have HE:=zh hE;clear hS2 hz hz2 hE;go_wp2_with fail
  refine(HI.out _).mono ?_;rintro e w3 ⟨rfl,hb3⟩;go_wp2_with fail
  go_ret;exact⟨ret_val (congrArg Value.string (ba_of (by rw[HE.out,cat_list,HS0.out,HS2.out,←HK0.out];rfl))),by rw[HH.out];exact hB.trans ((below_tr' hB2 hb3).mono (by have:=hB.size;rw[HH.out]at this;exact this))⟩
 by_cases k3:K=3
 ·clear k1 k2;subst k3;have hE:=HE3.out rfl;have HE:=zh hE;clear hE;generalize canon fa=n at *;have hbr:=fun n w=>bits_run n w
  have hcs:=fun w=>Lib.run_convert_string_bytes (P:=Tryz.prog) w 9 83 5 S0 Tryz.underlying9 Tryz.underlying83 Tryz.underlying5
  have hAcc:=Acc.bytes W2 5 S0;have hbw:=below_bytes W2 5 S0;go_wp2_with fail
  refine(HCa.out _).mono ?_;rintro e w' ⟨rfl,rfl⟩;go_wp2_with fail
  generalize grownCap W2 S0.size 0 5=gc at *;generalize Lib.bytesWorld W2 5 S0=V at *;have HQ:=zh (show W2.heap.size≤V.heap.size from hbw.size);have hB3:=below_tr' hB2 hbw;have hT:Acc W2.heap.size V (.slice (some ⟨W2.heap.size,0,none⟩) S0.size gc) [k0]:=by rw[←HS0d.out];exact hAcc
  clear hAcc hbw hcs hbr;generalize hvv:Value.slice (some ⟨W2.heap.size,0,none⟩) S0.size gc=vv at *;clear hvv;generalize W2.heap.size=G at *;clear a0 a1 a2 a3 a4 a5;refine wp_loop_rounds 9 ?_;rw[rounds_succ];have e0:(n:Int) / 72057594037927936 % 256=((UInt8.ofNat (n / 2 ^ 56 % 256)).toNat:Int):=by simp[UInt8.toNat_ofNat']
  have E0:=zh e0;clear e0;have hx0:Below V.heap.size V (V.alloc (.cells #[.int .u8 ((n:Int) / 72057594037927936 % 256)] 5)):=(Below.refl _ _).alloc (Nat.le_refl _) _;have hTx0:=hT.kept hx0;have hBx0:=below_tr' hB3 hx0;have hq0:G≤(V.alloc (.cells #[.int .u8 ((n:Int) / 72057594037927936 % 256)] 5)).heap.size:=Nat.le_trans HQ.out hx0.size;go_wp2_with (at_builtin;refine wpList_append_acc _ rfl _ _ 83 rfl 5 i0 (.int .u8 0) Tryz.underlying83 HII.out HZ0.out HZ1.out HZ2.out rfl rfl hTx0 (by simp) hq0 ⟨V.heap.size,0,none⟩ 1 (UInt8.ofNat (n / 2 ^ 56 % 256)) rfl ?c0 ?_)
  case c0 =>
   intro j u hj;match j,hj with
   | 0,hj=>simp at hj;subst hj;simp[Addr.add]
  intro v1 w1 hT1 hy0;have hB4:Below W1.heap.size W1 w1:=hBx0.trans (hy0.mono HG.out);replace HQ:=zh (show G≤w1.heap.size from Nat.le_trans hq0 hy0.size);clear hTx0 hBx0 hq0 hx0 hy0 hT hB3 E0;go_wp2_with fail
  rw[rounds_succ];have e1:(n:Int) / 281474976710656 % 256=((UInt8.ofNat (n / 2 ^ 48 % 256)).toNat:Int):=by simp[UInt8.toNat_ofNat']
  have E1:=zh e1;clear e1;have hx1:Below w1.heap.size w1 (w1.alloc (.cells #[.int .u8 ((n:Int) / 281474976710656 % 256)] 5)):=(Below.refl _ _).alloc (Nat.le_refl _) _;have hTx1:=hT1.kept hx1;have hBx1:=below_tr' hB4 hx1;have hq1:G≤(w1.alloc (.cells #[.int .u8 ((n:Int) / 281474976710656 % 256)] 5)).heap.size:=Nat.le_trans HQ.out hx1.size;go_wp2_with (at_builtin;refine wpList_append_acc _ rfl _ _ 83 rfl 5 i0 (.int .u8 0) Tryz.underlying83 HII.out HZ0.out HZ1.out HZ2.out rfl rfl hTx1 (by simp) hq1 ⟨w1.heap.size,0,none⟩ 1 (UInt8.ofNat (n / 2 ^ 48 % 256)) rfl ?c1 ?_)
  case c1 =>
   intro j u hj;match j,hj with
   | 0,hj=>simp at hj;subst hj;simp[Addr.add]
  intro v2 w2 hT2 hy1;have hB5:Below W1.heap.size W1 w2:=hBx1.trans (hy1.mono HG.out);replace HQ:=zh (show G≤w2.heap.size from Nat.le_trans hq1 hy1.size);clear hTx1 hBx1 hq1 hx1 hy1 hT1 hB4 E1;go_wp2_with fail
  rw[rounds_succ];have e2:(n:Int) / 1099511627776 % 256=((UInt8.ofNat (n / 2 ^ 40 % 256)).toNat:Int):=by simp[UInt8.toNat_ofNat']
  have E2:=zh e2;clear e2;have hx2:Below w2.heap.size w2 (w2.alloc (.cells #[.int .u8 ((n:Int) / 1099511627776 % 256)] 5)):=(Below.refl _ _).alloc (Nat.le_refl _) _;have hTx2:=hT2.kept hx2;have hBx2:=below_tr' hB5 hx2;have hq2:G≤(w2.alloc (.cells #[.int .u8 ((n:Int) / 1099511627776 % 256)] 5)).heap.size:=Nat.le_trans HQ.out hx2.size;go_wp2_with (at_builtin;refine wpList_append_acc _ rfl _ _ 83 rfl 5 i0 (.int .u8 0) Tryz.underlying83 HII.out HZ0.out HZ1.out HZ2.out rfl rfl hTx2 (by simp) hq2 ⟨w2.heap.size,0,none⟩ 1 (UInt8.ofNat (n / 2 ^ 40 % 256)) rfl ?c2 ?_)
  case c2 =>
   intro j u hj;match j,hj with
   | 0,hj=>simp at hj;subst hj;simp[Addr.add]
  intro v3 w3 hT3 hy2;have hB6:Below W1.heap.size W1 w3:=hBx2.trans (hy2.mono HG.out);replace HQ:=zh (show G≤w3.heap.size from Nat.le_trans hq2 hy2.size);clear hTx2 hBx2 hq2 hx2 hy2 hT2 hB5 E2;go_wp2_with fail
  rw[rounds_succ];have e3:(n:Int) / 4294967296 % 256=((UInt8.ofNat (n / 2 ^ 32 % 256)).toNat:Int):=by simp[UInt8.toNat_ofNat']
  have E3:=zh e3;clear e3;have hx3:Below w3.heap.size w3 (w3.alloc (.cells #[.int .u8 ((n:Int) / 4294967296 % 256)] 5)):=(Below.refl _ _).alloc (Nat.le_refl _) _;have hTx3:=hT3.kept hx3;have hBx3:=below_tr' hB6 hx3;have hq3:G≤(w3.alloc (.cells #[.int .u8 ((n:Int) / 4294967296 % 256)] 5)).heap.size:=Nat.le_trans HQ.out hx3.size;go_wp2_with (at_builtin;refine wpList_append_acc _ rfl _ _ 83 rfl 5 i0 (.int .u8 0) Tryz.underlying83 HII.out HZ0.out HZ1.out HZ2.out rfl rfl hTx3 (by simp) hq3 ⟨w3.heap.size,0,none⟩ 1 (UInt8.ofNat (n / 2 ^ 32 % 256)) rfl ?c3 ?_)
  case c3 =>
   intro j u hj;match j,hj with
   | 0,hj=>simp at hj;subst hj;simp[Addr.add]
  intro v4 w4 hT4 hy3;have hB7:Below W1.heap.size W1 w4:=hBx3.trans (hy3.mono HG.out);replace HQ:=zh (show G≤w4.heap.size from Nat.le_trans hq3 hy3.size);clear hTx3 hBx3 hq3 hx3 hy3 hT3 hB6 E3;go_wp2_with fail
  rw[rounds_succ];have e4:(n:Int) / 16777216 % 256=((UInt8.ofNat (n / 2 ^ 24 % 256)).toNat:Int):=by simp[UInt8.toNat_ofNat']
  have E4:=zh e4;clear e4;have hx4:Below w4.heap.size w4 (w4.alloc (.cells #[.int .u8 ((n:Int) / 16777216 % 256)] 5)):=(Below.refl _ _).alloc (Nat.le_refl _) _;have hTx4:=hT4.kept hx4;have hBx4:=below_tr' hB7 hx4;have hq4:G≤(w4.alloc (.cells #[.int .u8 ((n:Int) / 16777216 % 256)] 5)).heap.size:=Nat.le_trans HQ.out hx4.size;go_wp2_with (at_builtin;refine wpList_append_acc _ rfl _ _ 83 rfl 5 i0 (.int .u8 0) Tryz.underlying83 HII.out HZ0.out HZ1.out HZ2.out rfl rfl hTx4 (by simp) hq4 ⟨w4.heap.size,0,none⟩ 1 (UInt8.ofNat (n / 2 ^ 24 % 256)) rfl ?c4 ?_)
  case c4 =>
   intro j u hj;match j,hj with
   | 0,hj=>simp at hj;subst hj;simp[Addr.add]
  intro v5 w5 hT5 hy4;have hB8:Below W1.heap.size W1 w5:=hBx4.trans (hy4.mono HG.out);replace HQ:=zh (show G≤w5.heap.size from Nat.le_trans hq4 hy4.size);clear hTx4 hBx4 hq4 hx4 hy4 hT4 hB7 E4;go_wp2_with fail
  rw[rounds_succ];have e5:(n:Int) / 65536 % 256=((UInt8.ofNat (n / 2 ^ 16 % 256)).toNat:Int):=by simp[UInt8.toNat_ofNat']
  have E5:=zh e5;clear e5;have hx5:Below w5.heap.size w5 (w5.alloc (.cells #[.int .u8 ((n:Int) / 65536 % 256)] 5)):=(Below.refl _ _).alloc (Nat.le_refl _) _;have hTx5:=hT5.kept hx5;have hBx5:=below_tr' hB8 hx5;have hq5:G≤(w5.alloc (.cells #[.int .u8 ((n:Int) / 65536 % 256)] 5)).heap.size:=Nat.le_trans HQ.out hx5.size;go_wp2_with (at_builtin;refine wpList_append_acc _ rfl _ _ 83 rfl 5 i0 (.int .u8 0) Tryz.underlying83 HII.out HZ0.out HZ1.out HZ2.out rfl rfl hTx5 (by simp) hq5 ⟨w5.heap.size,0,none⟩ 1 (UInt8.ofNat (n / 2 ^ 16 % 256)) rfl ?c5 ?_)
  case c5 =>
   intro j u hj;match j,hj with
   | 0,hj=>simp at hj;subst hj;simp[Addr.add]
  intro v6 w6 hT6 hy5;have hB9:Below W1.heap.size W1 w6:=hBx5.trans (hy5.mono HG.out);replace HQ:=zh (show G≤w6.heap.size from Nat.le_trans hq5 hy5.size);clear hTx5 hBx5 hq5 hx5 hy5 hT5 hB8 E5;go_wp2_with fail
  rw[rounds_succ];have e6:(n:Int) / 256 % 256=((UInt8.ofNat (n / 2 ^ 8 % 256)).toNat:Int):=by simp[UInt8.toNat_ofNat']
  have E6:=zh e6;clear e6;have hx6:Below w6.heap.size w6 (w6.alloc (.cells #[.int .u8 ((n:Int) / 256 % 256)] 5)):=(Below.refl _ _).alloc (Nat.le_refl _) _;have hTx6:=hT6.kept hx6;have hBx6:=below_tr' hB9 hx6;have hq6:G≤(w6.alloc (.cells #[.int .u8 ((n:Int) / 256 % 256)] 5)).heap.size:=Nat.le_trans HQ.out hx6.size;go_wp2_with (at_builtin;refine wpList_append_acc _ rfl _ _ 83 rfl 5 i0 (.int .u8 0) Tryz.underlying83 HII.out HZ0.out HZ1.out HZ2.out rfl rfl hTx6 (by simp) hq6 ⟨w6.heap.size,0,none⟩ 1 (UInt8.ofNat (n / 2 ^ 8 % 256)) rfl ?c6 ?_)
  case c6 =>
   intro j u hj;match j,hj with
   | 0,hj=>simp at hj;subst hj;simp[Addr.add]
  intro v7 w7 hT7 hy6;have hB10:Below W1.heap.size W1 w7:=hBx6.trans (hy6.mono HG.out);replace HQ:=zh (show G≤w7.heap.size from Nat.le_trans hq6 hy6.size);clear hTx6 hBx6 hq6 hx6 hy6 hT6 hB9 E6;go_wp2_with fail
  rw[rounds_succ];have e7:(n:Int) % 256=((UInt8.ofNat (n / 2 ^ 0 % 256)).toNat:Int):=by simp[UInt8.toNat_ofNat']
  have E7:=zh e7;clear e7;have hx7:Below w7.heap.size w7 (w7.alloc (.cells #[.int .u8 ((n:Int) % 256)] 5)):=(Below.refl _ _).alloc (Nat.le_refl _) _;have hTx7:=hT7.kept hx7;have hBx7:=below_tr' hB10 hx7;have hq7:G≤(w7.alloc (.cells #[.int .u8 ((n:Int) % 256)] 5)).heap.size:=Nat.le_trans HQ.out hx7.size;go_wp2_with (at_builtin;refine wpList_append_acc _ rfl _ _ 83 rfl 5 i0 (.int .u8 0) Tryz.underlying83 HII.out HZ0.out HZ1.out HZ2.out rfl rfl hTx7 (by simp) hq7 ⟨w7.heap.size,0,none⟩ 1 (UInt8.ofNat (n / 2 ^ 0 % 256)) rfl ?c7 ?_)
  case c7 =>
   intro j u hj;match j,hj with
   | 0,hj=>simp at hj;subst hj;simp[Addr.add]
  intro v8 w8 hT8 hy7;have hB11:Below W1.heap.size W1 w8:=hBx7.trans (hy7.mono HG.out);replace HQ:=zh (show G≤w8.heap.size from Nat.le_trans hq7 hy7.size);clear hTx7 hBx7 hq7 hx7 hy7 hT7 hB10 E7;go_wp2_with fail
  rw[rounds_succ];have hl9:([k0]++[(UInt8.ofNat (n / 2 ^ 56 % 256))]++[(UInt8.ofNat (n / 2 ^ 48 % 256))]++[(UInt8.ofNat (n / 2 ^ 40 % 256))]++[(UInt8.ofNat (n / 2 ^ 32 % 256))]++[(UInt8.ofNat (n / 2 ^ 24 % 256))]++[(UInt8.ofNat (n / 2 ^ 16 % 256))]++[(UInt8.ofNat (n / 2 ^ 8 % 256))]++[(UInt8.ofNat (n / 2 ^ 0 % 256))])=encV v:=by rw[HE.out,←HK0.out];rfl
  have hT9:Acc G w8 v8 (encV v):=by rw[←hl9];simpa using hT8
  clear hl9 hT8;generalize encV v=EE at *;obtain⟨g,cp,rfl,_,_,_,hcc,_⟩:=hT9;have hcv:=HCv.out g cp EE w8 (fun j hj=>by
   have:=hcc j (.int .u8 (EE[j].toNat:Int)) (by unfold Lib.byteCells;rw[List.getElem?_map,List.getElem?_eq_getElem hj];rfl);rw[Addr.add_lit];exact this)
  go_wp2_with fail
  go_ret;exact⟨rfl,by rw[HH.out];exact hB.trans ((hB11).mono (by have:=hB.size;rw[HH.out]at this;exact this))⟩
 by_cases k4:K=4
 ·clear k1 k2 k3;subst k4;have hE:=HE4.out rfl;have HI:=zh (fun w=>rStr_any sl (HSl.out rfl) w);have hz:=strE_len sl;have hz0:=HSl2.out rfl;obtain⟨S2,hS2⟩:∃ s,s=(⟨(strE sl).toArray⟩:ByteArray):=⟨_,rfl⟩;have hz2:S2.size=(strE sl).length:=by rw[hS2];show(strE sl).toArray.size=_;simp
  have hno:¬ 9223372036854775807<S0.size+S2.size:=by have:=hS0s;omega
  replace HI:=zh (fun w=>(show Calls Tryz.prog 122 #[.string S] w (Gives (.string S2) w) from by rw[hS2,HSS.out];exact HI.out w));have HS2:=zh hS2;have HE:=zh hE;clear hS2 hz hz0 hz2 hE;go_wp2_with fail
  refine(HI.out _).mono ?_;rintro e w3 ⟨rfl,hb3⟩;go_wp2_with fail
  go_ret;exact⟨ret_val (congrArg Value.string (ba_of (by rw[HE.out,cat_list,HS0.out,HS2.out,←HK0.out];rfl))),by rw[HH.out];exact hB.trans ((below_tr' hB2 hb3).mono (by have:=hB.size;rw[HH.out]at this;exact this))⟩
 by_cases k5:K=5
 ·clear k1 k2 k3 k4;subst k5;have HAll:=zh (HAl.out (.inl rfl));have HDr:=zh HD5.out;have hE:=HE5.out rfl;have HU:=zh (fun w=>rUint_any N (by omega) w);have hz:=uintS_len N;obtain⟨S2,hS2⟩:∃ s,s=(⟨(uintS N).toArray⟩:ByteArray):=⟨_,rfl⟩;have hz2:S2.size=(uintS N).length:=by rw[hS2];show(uintS N).toArray.size=_;simp
  have hno:¬ 9223372036854775807<S0.size+S2.size:=by have:=hS0s;omega
  have wN:IntKind.u64.wrap (N:Int)=(N:Int):=by rw[IntKind.wrap_u64];omega
  replace HU:=zh (fun w=>(show Calls Tryz.prog 50 #[.int .u64 (N:Int)] w (Gives (.string S2) w) from by rw[hS2];exact HU.out w));have hst:encV v=(S0++S2).data.toList++encL false (ns.drop 0) (its.drop 0):=by rw[cat_list,HS0.out,hS2,hE,←HK0.out];rfl
  have hEl:(encV v).length≤8000000:=hlen;generalize encV v=EE at *;have HSt:=zh hst;clear hS2 hz hz2 hE hst;go_wp2_with fail
  refine(HU.out _).mono ?_;rintro e w3 ⟨rfl,hb3⟩;have hB3:=below_tr' hB2 hb3;clear hB2 hb3 a0 a1 a2 a3 a4 a5;have nA:=(HBl.out _ hB3);have a0:w3.cell? ⟨H,0,none⟩=some (.int .i64 5):=by rw[zc nA];rfl
  have a1:w3.cell? ⟨H,1,none⟩=some (.int .i64 X):=by rw[zc nA];rfl
  have a2:w3.cell? ⟨H,2,none⟩=some (.float .f64 fa):=by rw[zc nA];rfl
  have a3:w3.cell? ⟨H,3,none⟩=some (.string S):=by rw[zc nA];rfl
  have a4:w3.cell? ⟨H,4,none⟩=some (.slice pp M pc):=by rw[zc nA];rfl
  have a5:w3.cell? ⟨H,5,none⟩=some (.slice p N cap):=by rw[zc nA];rfl
  clear nA;go_wp2_with fail
  generalize S0++S2=r0 at *;clear a0 a1 a2 a3 a4 a5;clear hno;go_loopw [3,7] (fun sv iv wr=>∃ (i:Nat) (r:ByteArray),sv=.string r∧iv=.int .i64 (i:Int)∧i≤N∧Hid (EE=r.data.toList++encL false (ns.drop i) (its.drop i))∧Below W1.heap.size W1 wr) (fun _ iv _=>N - (intOf iv).toNat)
  case atStart=>exact⟨0,_,rfl,rfl,Nat.zero_le _,HSt.out,hB3⟩
  case round =>
   clear hB3 HSt;obtain⟨i,r,rfl,rfl,hi,hR,hb⟩:=hrel;have nA:=(HBl.out _ hb);have a0:wr.cell? ⟨H,0,none⟩=some (.int .i64 5):=by rw[zc nA];rfl
   have a1:wr.cell? ⟨H,1,none⟩=some (.int .i64 X):=by rw[zc nA];rfl
   have a2:wr.cell? ⟨H,2,none⟩=some (.float .f64 fa):=by rw[zc nA];rfl
   have a3:wr.cell? ⟨H,3,none⟩=some (.string S):=by rw[zc nA];rfl
   have a4:wr.cell? ⟨H,4,none⟩=some (.slice pp M pc):=by rw[zc nA];rfl
   have a5:wr.cell? ⟨H,5,none⟩=some (.slice p N cap):=by rw[zc nA];rfl
   clear nA;by_cases hlt:i<N
   ·have t0:decide ((i:Int)<(N:Int))=true:=by simp;omega
    have i1:(0:Int)≤(i:Int):=by omega
    have i2:(i:Int)<(N:Int):=by omega
    have hD:=HDr.out i hlt;have hE2:=hR.out;rw[hD]at hE2;have hln:=congrArg List.length hE2;simp only[List.length_append]at hln;have hrs:r.data.toList.length=r.size:=by simp
    obtain⟨gA,offA,rfl,ds,hva,x0,x1,x2,x3,x4,x5⟩:=HIA.out i hlt _ hb;obtain⟨q1,r1,s1,v1,rfl⟩:=hva.sixS;simp at x0 x1 x2 x3 x4 x5;have hrv:=HAll.out i hlt;have hxl:(encV (its.getD i noVT)).length≤8000000:=by omega
    obtain⟨S4,hS4⟩:∃ s,s=(⟨(encV (its.getD i noVT)).toArray⟩:ByteArray):=⟨_,rfl⟩;have hz4:S4.size=(encV (its.getD i noVT)).length:=by rw[hS4];show(encV (its.getD i noVT)).toArray.size=_;simp
    have hno2:¬ 9223372036854775807<r.size+S4.size:=by omega
    have HV2:=zh (show Calls Tryz.prog 82 #[.agg _] wr (Gives (.string S4) wr) from by rw[hS4];exact IH.out _ _ _ _ hva hrv hxl);have HE2:=zh hE2;have HS4:=zh hS4;clear hD hE2 hln hrs hS4 hz4 hrv hxl hva;go_wp2_with fail
    refine(HV2.out).mono ?_;rintro e w5 ⟨rfl,hb5⟩;go_wp2_with fail
    go_roundw
    case rel=>exact⟨i+1,_,rfl,by go_num,by omega,by show _=_;rw[HE2.out,cat_list,HS4.out];simp only[List.append_assoc],below_tr' hb hb5⟩
    case measure=>simp[intOf];omega
   ·have t0:decide ((i:Int)<(N:Int))=false:=by simp;omega
    have HF:=zh (HEnd.out false i (by omega));go_wp2_with fail
    go_ret;exact⟨ret_val (congrArg Value.string (ba_of (by rw[hR.out,HF.out,List.append_nil]))),by rw[HH.out];exact hB.trans ((hb).mono (by have:=hB.size;rw[HH.out]at this;exact this))⟩
 by_cases k6:K=6
 ·clear k1 k2 k3 k4 k5;subst k6;have HAll:=zh (HAl.out (.inr rfl));have HNM:=zh (HNm.out rfl).1;have HDr:=zh (fun i (hi:i<N) (hn:M=N)=>HD6.out i hi (by omega));have HNames:=zh (HRn.out rfl);have hE:=HE6.out rfl;have HU:=zh (fun w=>rUint_any N (by omega) w);have hz:=uintS_len N;obtain⟨S2,hS2⟩:∃ s,s=(⟨(uintS N).toArray⟩:ByteArray):=⟨_,rfl⟩;have hz2:S2.size=(uintS N).length:=by rw[hS2];show(uintS N).toArray.size=_;simp
  have hno:¬ 9223372036854775807<S0.size+S2.size:=by have:=hS0s;omega
  have wN:IntKind.u64.wrap (N:Int)=(N:Int):=by rw[IntKind.wrap_u64];omega
  replace HU:=zh (fun w=>(show Calls Tryz.prog 50 #[.int .u64 (N:Int)] w (Gives (.string S2) w) from by rw[hS2];exact HU.out w));have hst:encV v=(S0++S2).data.toList++encL true (ns.drop 0) (its.drop 0):=by rw[cat_list,HS0.out,hS2,hE,←HK0.out];rfl
  have hEl:(encV v).length≤8000000:=hlen;generalize encV v=EE at *;have HSt:=zh hst;clear hS2 hz hz2 hE hst;go_wp2_with fail
  refine(HU.out _).mono ?_;rintro e w3 ⟨rfl,hb3⟩;have hB3:=below_tr' hB2 hb3;clear hB2 hb3 a0 a1 a2 a3 a4 a5;have nA:=(HBl.out _ hB3);have a0:w3.cell? ⟨H,0,none⟩=some (.int .i64 6):=by rw[zc nA];rfl
  have a1:w3.cell? ⟨H,1,none⟩=some (.int .i64 X):=by rw[zc nA];rfl
  have a2:w3.cell? ⟨H,2,none⟩=some (.float .f64 fa):=by rw[zc nA];rfl
  have a3:w3.cell? ⟨H,3,none⟩=some (.string S):=by rw[zc nA];rfl
  have a4:w3.cell? ⟨H,4,none⟩=some (.slice pp M pc):=by rw[zc nA];rfl
  have a5:w3.cell? ⟨H,5,none⟩=some (.slice p N cap):=by rw[zc nA];rfl
  clear nA;go_wp2_with fail
  generalize S0++S2=r0 at *;clear a0 a1 a2 a3 a4 a5;clear hno;go_loopw [3,7] (fun sv iv wr=>∃ (i:Nat) (r:ByteArray),sv=.string r∧iv=.int .i64 (i:Int)∧i≤N∧Hid (EE=r.data.toList++encL true (ns.drop i) (its.drop i))∧Below W1.heap.size W1 wr) (fun _ iv _=>N - (intOf iv).toNat)
  case atStart=>exact⟨0,_,rfl,rfl,Nat.zero_le _,HSt.out,hB3⟩
  case round =>
   clear hB3 HSt;obtain⟨i,r,rfl,rfl,hi,hR,hb⟩:=hrel;have nA:=(HBl.out _ hb);have a0:wr.cell? ⟨H,0,none⟩=some (.int .i64 6):=by rw[zc nA];rfl
   have a1:wr.cell? ⟨H,1,none⟩=some (.int .i64 X):=by rw[zc nA];rfl
   have a2:wr.cell? ⟨H,2,none⟩=some (.float .f64 fa):=by rw[zc nA];rfl
   have a3:wr.cell? ⟨H,3,none⟩=some (.string S):=by rw[zc nA];rfl
   have a4:wr.cell? ⟨H,4,none⟩=some (.slice pp M pc):=by rw[zc nA];rfl
   have a5:wr.cell? ⟨H,5,none⟩=some (.slice p N cap):=by rw[zc nA];rfl
   clear nA;by_cases hlt:i<N
   ·have t0:decide ((i:Int)<(N:Int))=true:=by simp;omega
    have i1:(0:Int)≤(i:Int):=by omega
    have i2:(i:Int)<(N:Int):=by omega
    have hD:=HDr.out i hlt (HNM.out);obtain⟨gN,offN,rfl,cn,hnl⟩:=HNames.out _ hb i (by have:=HNM.out;omega);have i3:(i:Int)<(M:Int):=by have:=HNM.out;omega
    have hE2:=hR.out;rw[hD]at hE2;have hln:=congrArg List.length hE2;simp only[List.length_append]at hln;have hrs:r.data.toList.length=r.size:=by simp
    have HN:=zh (fun w=>rStr_any (ns.getD i []) (by omega) w);obtain⟨S3,hS3⟩:∃ s,s=(⟨(strE (ns.getD i [])).toArray⟩:ByteArray):=⟨_,rfl⟩;have hz3:S3.size=(strE (ns.getD i [])).length:=by rw[hS3];show(strE (ns.getD i [])).toArray.size=_;simp
    replace HN:=zh (fun w=>(show Calls Tryz.prog 122 #[.string ⟨(ns.getD i []).toArray⟩] w (Gives (.string S3) w) from by rw[hS3];exact HN.out w));generalize (⟨(ns.getD i []).toArray⟩:ByteArray)=NM at *;have hno1:¬ 9223372036854775807<r.size+S3.size:=by omega
    obtain⟨gA,offA,rfl,ds0,hva0,_,_,_,_,_,_⟩:=HIA.out i hlt _ hb;have hrv:=HAll.out i hlt;have hxl:(encV (its.getD i noVT)).length≤8000000:=by omega
    obtain⟨S4,hS4⟩:∃ s,s=(⟨(encV (its.getD i noVT)).toArray⟩:ByteArray):=⟨_,rfl⟩;have hz4:S4.size=(encV (its.getD i noVT)).length:=by rw[hS4];show(encV (its.getD i noVT)).toArray.size=_;simp
    have hno2:¬ 9223372036854775807<r.size+S3.size+S4.size:=by omega
    have HV:=zh (fun cs w (h:ValAt w d (its.getD i noVT) cs)=>(show Calls Tryz.prog 82 #[.agg cs] w (Gives (.string S4) w) from by rw[hS4];exact IH.out _ _ _ _ h hrv hxl));have HE2:=zh hE2;have HS3:=zh hS3;have HS4:=zh hS4;clear hD hE2 hln hrs hS3 hz3 hS4 hz4 hrv hxl hva0;go_wp2_with fail
    refine(HN.out _).mono ?_;rintro e w4 ⟨rfl,hb4⟩;have hb':=below_tr' hb hb4;clear hb hb4 cn a0 a1 a2 a3 a4 a5;have nA:=(HBl.out _ hb');have a0:w4.cell? ⟨H,0,none⟩=some (.int .i64 6):=by rw[zc nA];rfl
    have a1:w4.cell? ⟨H,1,none⟩=some (.int .i64 X):=by rw[zc nA];rfl
    have a2:w4.cell? ⟨H,2,none⟩=some (.float .f64 fa):=by rw[zc nA];rfl
    have a3:w4.cell? ⟨H,3,none⟩=some (.string S):=by rw[zc nA];rfl
    have a4:w4.cell? ⟨H,4,none⟩=some (.slice (some ⟨gN,offN,none⟩) M pc):=by rw[zc nA];rfl
    have a5:w4.cell? ⟨H,5,none⟩=some (.slice (some ⟨gA,offA,none⟩) N cap):=by rw[zc nA];rfl
    clear nA;obtain⟨gA',offA',hpa,ds,hva,x0,x1,x2,x3,x4,x5⟩:=HIA.out i hlt _ hb';injection hpa with hpa
    injection hpa with hpa1 hpa2
    subst hpa1;subst hpa2;obtain⟨q1,r1,s1,v1,rfl⟩:=hva.sixS;simp at x0 x1 x2 x3 x4 x5;have HV2:=zh (HV.out _ _ hva);clear hva;go_wp2_with fail
    refine(HV2.out).mono ?_;rintro e w5 ⟨rfl,hb5⟩;go_wp2_with fail
    go_roundw
    case rel=>exact⟨i+1,_,rfl,by go_num,by omega,by show _=_;rw[HE2.out,cat_list,cat_list,HS3.out,HS4.out];simp only[List.append_assoc],below_tr' hb' hb5⟩
    case measure=>simp[intOf];omega
   ·have t0:decide ((i:Int)<(N:Int))=false:=by simp;omega
    have HF:=zh (HEnd.out true i (by omega));go_wp2_with fail
    go_ret;exact⟨ret_val (congrArg Value.string (ba_of (by rw[hR.out,HF.out,List.append_nil]))),by rw[HH.out];exact hB.trans ((hb).mono (by have:=hB.size;rw[HH.out]at this;exact this))⟩
 exact absurd HKd.out (by omega)
theorem rEnc_any:∀ (d:Nat) (v:VT) (cs:Array Value) (far:Nat) (w:World),ValAt w d v cs→rightV v far=true→(encV v).length≤8000000→Calls Tryz.prog 82 #[.agg cs] w (Gives (.string ⟨(encV v).toArray⟩) w)
 | 0,_,_,_,_,h,_,_=>h.elim
 | _+1,v,_,0,_,_,hr,_=>by rw[right0]at hr;cases hr
 | d+1,v,cs,far+1,w,h,hr,hl=>rEnc_step d v cs far w (fun v cs far w=>rEnc_any d v cs far w) h hr hl
end
end Go.Proofs.YtepaaochgljcdaaGreatDoor
