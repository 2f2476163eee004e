/-
  AsN in one text.
-/
import Derived.Test.YtepaaochgljcdaaGreatDoorS14
import Derived.Test.YtepaaochgljcdaaGreatDoorCl
set_option maxRecDepth 100000
set_option maxHeartbeats 4000000
namespace Go.Proofs.YtepaaochgljcdaaGreatDoor
open Go.RowKit
theorem cmd_isO {l0:List UInt8} {n0 n1 n2 n3 n4:Nat} {v5 v6:VT} {st1 st2 st3 st4 st5 st6 st7:Option (List UInt8)} (h0:IsO ((some l0).bind numR) n0 st1) (h1:IsO (st1.bind numR) n1 st2) (h2:IsO (st2.bind numR) n2 st3) (h3:IsO (st3.bind numR) n3 st4) (h4:IsO (st4.bind numR) n4 st5) (h5:IsO (st5.bind someR) v5 st6) (h6:IsO (st6.bind someR) v6 st7) :
  match cmdR l0 with
  | some r=>st7=some r.2∧r.1=⟨(n0:Int),(n1:Int),(n2:Int),(n3:Int),(n4:Int),v5,v6⟩
  | none=>st7=none:=by
 have hn:∀ {α:Type} {f:List UInt8→Option (α × List UInt8)} {x:α} {st:Option (List UInt8)},IsO ((none:Option (List UInt8)).bind f) x st→st=none:=fun h=>h
 have hs:∀ {α:Type} {f:List UInt8→Option (α × List UInt8)} {l:List UInt8} {x:α} {st:Option (List UInt8)},IsO ((some l).bind f) x st→(f l=none∧st=none)∨(∃ r,f l=some (x,r)∧st=some r):=by
  intro α f l x st h;have h:IsO (f l) x st:=h;cases hf:f l with
  | none=>rw[hf]at h;exact .inl ⟨rfl,h⟩
  | some y=>rw[hf]at h;obtain⟨rfl,rfl⟩:=h;exact .inr ⟨_,rfl,rfl⟩
 unfold cmdR;rcases hs h0 with ⟨e0,rfl⟩|⟨r0,e0,rfl⟩
 ·have:=hn h1;subst this;have:=hn h2;subst this;have:=hn h3;subst this;have:=hn h4;subst this;have:=hn h5;subst this;have:=hn h6;subst this;rw[e0];rfl
 ·rcases hs h1 with ⟨e1,rfl⟩|⟨r1,e1,rfl⟩
  ·have:=hn h2;subst this;have:=hn h3;subst this;have:=hn h4;subst this;have:=hn h5;subst this;have:=hn h6;subst this;rw[e0,Option.bind_some,e1];rfl
  ·rcases hs h2 with ⟨e2,rfl⟩|⟨r2,e2,rfl⟩
   ·have:=hn h3;subst this;have:=hn h4;subst this;have:=hn h5;subst this;have:=hn h6;subst this;rw[e0,Option.bind_some,e1,Option.bind_some,e2];rfl
   ·rcases hs h3 with ⟨e3,rfl⟩|⟨r3,e3,rfl⟩
    ·have:=hn h4;subst this;have:=hn h5;subst this;have:=hn h6;subst this;rw[e0,Option.bind_some,e1,Option.bind_some,e2,Option.bind_some,e3];rfl
    ·rcases hs h4 with ⟨e4,rfl⟩|⟨r4,e4,rfl⟩
     ·have:=hn h5;subst this;have:=hn h6;subst this;rw[e0,Option.bind_some,e1,Option.bind_some,e2,Option.bind_some,e3,Option.bind_some,e4];rfl
     ·rcases hs h5 with ⟨e5,rfl⟩|⟨r5,e5,rfl⟩
      ·have:=hn h6;subst this;rw[e0,Option.bind_some,e1,Option.bind_some,e2,Option.bind_some,e3,Option.bind_some,e4,Option.bind_some,e5];rfl
      ·rcases hs h6 with ⟨e6,rfl⟩|⟨r6,e6,rfl⟩
       ·rw[e0,Option.bind_some,e1,Option.bind_some,e2,Option.bind_some,e3,Option.bind_some,e4,Option.bind_some,e5,Option.bind_some,e6];rfl
       ·rw[e0,Option.bind_some,e1,Option.bind_some,e2,Option.bind_some,e3,Option.bind_some,e4,Option.bind_some,e5,Option.bind_some,e6];exact⟨rfl,rfl⟩
/-- what the references' ReadCmd leaves -/
def RcQ (s:ByteArray) (w:World) (r:Option (CmdT × List UInt8)) (e:Ending) (w':World):Prop :=
 match r with
 | some c=>∃ cs,e=.returned (.tuple #[.agg cs,.int .i64 ((s.size - c.2.length:Nat):Int),.int .i64 0])∧CmdIn (fun g=>w.heap.size≤g) w' 13 c.1 cs∧Below w.heap.size w w'
 | none=>e=.returned (.tuple #[.agg #[.int .i64 0,.int .i64 0,.int .i64 0,.int .i64 0,.int .i64 0,.int .i64 0,.int .i64 0,.float .f64 0,.string ⟨#[]⟩,.slice none 0 0,.slice none 0 0,.int .i64 0,.int .i64 0,.float .f64 0,.string ⟨#[]⟩,.slice none 0 0,.slice none 0 0],.int .i64 0,.int .i64 5])∧Below w.heap.size w w'
theorem rrc_none (s:ByteArray) (hs:s.size≤1000000) (k:Nat) (hk:k≤s.size) (w:World) (hRR:cmdR (s.data.toList.drop k)=none):Calls Tryz.prog 10 #[.string s,.int .i64 (k:Int)] w (RcQ s w none):=by
 have hsf:∀ (a:Addr) (x:Nat) (m:Mode) (w:World),(store a (.float .f64 x) m).run Tryz.prog w=stored Tryz.prog w a (.float .f64 x) m:=fun a x m w=>run_store _ w a _ m rfl
 have HN:=zh (fun st x h=>inum_any (w.heap.size+1) 0 s hs st x h);have HS:=zh (fun st x h=>isome_any (w.heap.size+1) 0 s hs st x h);have hz1:(w.alloc (.cells #[.int .i64 0,.int .i64 0,.int .i64 0,.int .i64 0,.int .i64 0,.int .i64 0,.int .i64 0,.float .f64 0,.string ⟨#[]⟩,.slice none 0 0,.slice none 0 0,.int .i64 0,.int .i64 0,.float .f64 0,.string ⟨#[]⟩,.slice none 0 0,.slice none 0 0] 30)).heap.size=w.heap.size+1:=by simp
 have h0:=heap_alloc_new w (.cells #[.int .i64 0,.int .i64 0,.int .i64 0,.int .i64 0,.int .i64 0,.int .i64 0,.int .i64 0,.float .f64 0,.string ⟨#[]⟩,.slice none 0 0,.slice none 0 0,.int .i64 0,.int .i64 0,.float .f64 0,.string ⟨#[]⟩,.slice none 0 0,.slice none 0 0] 30);have f0:=(Below.refl w.heap.size w).alloc (Nat.le_refl _) (.cells #[.int .i64 0,.int .i64 0,.int .i64 0,.int .i64 0,.int .i64 0,.int .i64 0,.int .i64 0,.float .f64 0,.string ⟨#[]⟩,.slice none 0 0,.slice none 0 0,.int .i64 0,.int .i64 0,.float .f64 0,.string ⟨#[]⟩,.slice none 0 0,.slice none 0 0] 30);have HBg:=zh (rbegin5_any s k hk (w.alloc (.cells #[.int .i64 0,.int .i64 0,.int .i64 0,.int .i64 0,.int .i64 0,.int .i64 0,.int .i64 0,.float .f64 0,.string ⟨#[]⟩,.slice none 0 0,.slice none 0 0,.int .i64 0,.int .i64 0,.float .f64 0,.string ⟨#[]⟩,.slice none 0 0,.slice none 0 0] 30)));generalize hW1:w.alloc (.cells #[.int .i64 0,.int .i64 0,.int .i64 0,.int .i64 0,.int .i64 0,.int .i64 0,.int .i64 0,.float .f64 0,.string ⟨#[]⟩,.slice none 0 0,.slice none 0 0,.int .i64 0,.int .i64 0,.float .f64 0,.string ⟨#[]⟩,.slice none 0 0,.slice none 0 0] 30)=W1 at *;have HW1:=zh hW1;clear hW1;generalize s.data.toList.drop k=l0 at *;have HRR:=zh hRR;clear hRR;go_in;go_wp2_with fail
 rw[HW1.out];refine(HBg.out).mono ?_;rintro e wB ⟨rfl,R0,hbB⟩;rw[hz1]at R0;have gC:=(hbB.block _ (lt_of_block h0)).trans h0;have hszB:w.heap.size+2≤wB.heap.size:=by have:=R0.lt;omega
 have f1:=below_tr' f0 hbB;go_upto_region 2 with (fail)
 try rw[hz1]
 have gI:=heap_alloc_new wB (.cells #[.pointer (some ⟨w.heap.size+1,0,none⟩)] 75);have fI:=(Below.refl wB.heap.size wB).alloc (Nat.le_refl _) (.cells #[.pointer (some ⟨w.heap.size+1,0,none⟩)] 75);generalize wB.alloc (.cells #[.pointer (some ⟨w.heap.size+1,0,none⟩)] 75)=V0 at *;have gC:=(fI.block _ (lt_of_block gC)).trans gC;have R0:=R0.below fI;have f2:=below_tr' f1 fI;have hIb:wB.heap.size ∉ [w.heap.size+1]:=by simp;omega
 have hCb:w.heap.size ∉ [w.heap.size+1]:=by simp
 generalize hI:wB.heap.size=I at *;have hIC:I≠w.heap.size:=by omega
 clear f0 f1 fI hbB h0;have i0:V0.cell? ⟨I,0,none⟩=some (.pointer (some ⟨w.heap.size+1,0,none⟩)):=by rw[zc gI];rfl
 have HO:=zh (iok_any (w.heap.size+1) 0 s _ V0 R0);go_wp2_with fail
 refine(HO.out).mono ?_;rintro e w1 ⟨rfl,R1,hf1⟩;have gC:=hf1.at gC hCb;have gI:=hf1.at gI hIb;clear i0 HO;have i0:w1.cell? ⟨I,0,none⟩=some (.pointer (some ⟨w.heap.size+1,0,none⟩)):=by rw[zc gI];rfl
 have F1:=hf1;have HN0:=zh (HN.out _ w1 R1);have hi0:=isO_out 0 ((some l0).bind numR);generalize outR 0 ((some l0).bind numR)=x0 at *;obtain⟨n0,st1⟩:=x0;go_wp2_with fail
 refine(HN0.out).mono ?_;rintro e w2 ⟨rfl,R2,hf2⟩;have gC:=hf2.at gC hCb;have gI:=hf2.at gI hIb;have F2:=F1.trans hf2;have hs2:=hf2.size;have hs1:=hf1.size;have hlI:=lt_of_block gI;clear i0;go_upto_region 5 with (fail)
 have gX:=heap_alloc_new w2 (.cells #[.int .i64 ((n0:Nat):Int),.int .i64 0,.int .i64 0,.int .i64 0,.int .i64 0,.int .i64 0,.int .i64 0,.float .f64 0,.string ⟨#[]⟩,.slice none 0 0,.slice none 0 0,.int .i64 0,.int .i64 0,.float .f64 0,.string ⟨#[]⟩,.slice none 0 0,.slice none 0 0] 30);have fX:=(Below.refl w2.heap.size w2).alloc (Nat.le_refl _) (.cells #[.int .i64 ((n0:Nat):Int),.int .i64 0,.int .i64 0,.int .i64 0,.int .i64 0,.int .i64 0,.int .i64 0,.float .f64 0,.string ⟨#[]⟩,.slice none 0 0,.slice none 0 0,.int .i64 0,.int .i64 0,.float .f64 0,.string ⟨#[]⟩,.slice none 0 0,.slice none 0 0] 30);generalize w2.alloc (.cells #[.int .i64 ((n0:Nat):Int),.int .i64 0,.int .i64 0,.int .i64 0,.int .i64 0,.int .i64 0,.int .i64 0,.float .f64 0,.string ⟨#[]⟩,.slice none 0 0,.slice none 0 0,.int .i64 0,.int .i64 0,.float .f64 0,.string ⟨#[]⟩,.slice none 0 0,.slice none 0 0] 30)=V1 at *;have gC:=(fX.block _ (lt_of_block gC)).trans gC;have gI:=(fX.block _ (lt_of_block gI)).trans gI;have R2:=R2.below fX;have hXI:I<w2.heap.size:=hlI;have F3:=F2.trans (Fr.of_below (l:=[w.heap.size+1]) fX);generalize hX:w2.heap.size=X at *;have hXb:X ∉ [w.heap.size+1]:=by simp;omega
 have hXn:I≠X∧w.heap.size≠X∧w.heap.size+1<X:=by omega
 have HX:=zh hX;clear fX hf1 hf2 F1 F2 hX R0 R1;have i0:V1.cell? ⟨I,0,none⟩=some (.pointer (some ⟨w.heap.size+1,0,none⟩)):=by rw[zc gI];rfl
 have HN1:=zh (HN.out _ V1 R2);have hi1:=isO_out 0 (st1.bind numR);generalize outR 0 (st1.bind numR)=x1 at *;obtain⟨n1,st2⟩:=x1;go_wp2_with fail
 refine(HN1.out).mono ?_;rintro e u1 ⟨rfl,S1,hf1⟩;have gC:=hf1.at gC hCb;have gI:=hf1.at gI hIb;have gX:=hf1.at gX hXb;have kx:u1.cell? ⟨X,1,none⟩=some (.int .i64 0):=by rw[zc gX];rfl
 have zx:u1.frozen? ⟨X,1,none⟩=false:=Lib.frozen_of_heap gX 1;clear i0;go_upto_region 6 with (fail)
 obtain⟨gX,FS⟩:=put17_n1 gX (.int .i64 ((n1:Nat):Int));have gC:=FS.at gC (by simp;omega);have gI:=FS.at gI (by simp;omega);have T1:=S1.kept FS (by simp;omega);have G1:=(F3.mono (m:=[w.heap.size+1,X]) (by simp)).trans ((hf1.mono (by simp)).trans (FS.mono (by simp)));clear kx zx FS hf1 R2 F3;generalize u1.setCell ⟨X,1,none⟩ (.int .i64 ((n1:Nat):Int))=v1 at *;have i0:v1.cell? ⟨I,0,none⟩=some (.pointer (some ⟨w.heap.size+1,0,none⟩)):=by rw[zc gI];rfl
 have HN2:=zh (HN.out _ v1 T1);have hi2:=isO_out 0 (st2.bind numR);generalize outR 0 (st2.bind numR)=x2 at *;obtain⟨n2,st3⟩:=x2;go_wp2_with fail
 refine(HN2.out).mono ?_;rintro e u2 ⟨rfl,S2,hf2⟩;have gC:=hf2.at gC hCb;have gI:=hf2.at gI hIb;have gX:=hf2.at gX hXb;have kx:u2.cell? ⟨X,2,none⟩=some (.int .i64 0):=by rw[zc gX];rfl
 have zx:u2.frozen? ⟨X,2,none⟩=false:=Lib.frozen_of_heap gX 2;clear i0;go_upto_region 7 with (fail)
 obtain⟨gX,FS⟩:=put17_n2 gX (.int .i64 ((n2:Nat):Int));have gC:=FS.at gC (by simp;omega);have gI:=FS.at gI (by simp;omega);have T2:=S2.kept FS (by simp;omega);have G2:=(G1.mono (m:=[w.heap.size+1,X]) (by simp)).trans ((hf2.mono (by simp)).trans (FS.mono (by simp)));clear kx zx FS hf2 T1 G1;generalize u2.setCell ⟨X,2,none⟩ (.int .i64 ((n2:Nat):Int))=v2 at *;have i0:v2.cell? ⟨I,0,none⟩=some (.pointer (some ⟨w.heap.size+1,0,none⟩)):=by rw[zc gI];rfl
 have HN3:=zh (HN.out _ v2 T2);have hi3:=isO_out 0 (st3.bind numR);generalize outR 0 (st3.bind numR)=x3 at *;obtain⟨n3,st4⟩:=x3;go_wp2_with fail
 refine(HN3.out).mono ?_;rintro e u3 ⟨rfl,S3,hf3⟩;have gC:=hf3.at gC hCb;have gI:=hf3.at gI hIb;have gX:=hf3.at gX hXb;have kx:u3.cell? ⟨X,3,none⟩=some (.int .i64 0):=by rw[zc gX];rfl
 have zx:u3.frozen? ⟨X,3,none⟩=false:=Lib.frozen_of_heap gX 3;clear i0;go_upto_region 8 with (fail)
 obtain⟨gX,FS⟩:=put17_n3 gX (.int .i64 ((n3:Nat):Int));have gC:=FS.at gC (by simp;omega);have gI:=FS.at gI (by simp;omega);have T3:=S3.kept FS (by simp;omega);have G3:=(G2.mono (m:=[w.heap.size+1,X]) (by simp)).trans ((hf3.mono (by simp)).trans (FS.mono (by simp)));clear kx zx FS hf3 T2 G2;generalize u3.setCell ⟨X,3,none⟩ (.int .i64 ((n3:Nat):Int))=v3 at *;have i0:v3.cell? ⟨I,0,none⟩=some (.pointer (some ⟨w.heap.size+1,0,none⟩)):=by rw[zc gI];rfl
 have HN4:=zh (HN.out _ v3 T3);have hi4:=isO_out 0 (st4.bind numR);generalize outR 0 (st4.bind numR)=x4 at *;obtain⟨n4,st5⟩:=x4;go_wp2_with fail
 refine(HN4.out).mono ?_;rintro e u4 ⟨rfl,S4,hf4⟩;have gC:=hf4.at gC hCb;have gI:=hf4.at gI hIb;have gX:=hf4.at gX hXb;have kx:u4.cell? ⟨X,4,none⟩=some (.int .i64 0):=by rw[zc gX];rfl
 have zx:u4.frozen? ⟨X,4,none⟩=false:=Lib.frozen_of_heap gX 4;clear i0;go_upto_region 9 with (fail)
 obtain⟨gX,FS⟩:=put17_n4 gX (.int .i64 ((n4:Nat):Int));have gC:=FS.at gC (by simp;omega);have gI:=FS.at gI (by simp;omega);have T4:=S4.kept FS (by simp;omega);have G4:=(G3.mono (m:=[w.heap.size+1,X]) (by simp)).trans ((hf4.mono (by simp)).trans (FS.mono (by simp)));clear kx zx FS hf4 T3 G3;generalize u4.setCell ⟨X,4,none⟩ (.int .i64 ((n4:Nat):Int))=v4 at *;have i0:v4.cell? ⟨I,0,none⟩=some (.pointer (some ⟨w.heap.size+1,0,none⟩)):=by rw[zc gI];rfl
 have HS5:=zh (HS.out _ v4 T4);have hsz5:X<v4.heap.size:=lt_of_block gX;go_wp2_with fail
 refine(HS5.out).mono ?_;rintro e u5 ⟨y5,cs5,st6,rfl,hv5,S5,hf5,hi5⟩;obtain⟨na5,nl5,nc5,ia5,il5,ic5,rfl⟩:=hv5.six;have gC:=hf5.at gC hCb;have gI:=hf5.at gI hIb;have gX:=hf5.at gX hXb;have k0:u5.cell? ⟨X,5,none⟩=some (.int .i64 0):=by rw[zc gX];rfl
 have z0:u5.frozen? ⟨X,5,none⟩=false:=Lib.frozen_of_heap gX 5;have k1:u5.cell? ⟨X,6,none⟩=some (.int .i64 0):=by rw[zc gX];rfl
 have z1:u5.frozen? ⟨X,6,none⟩=false:=Lib.frozen_of_heap gX 6;have k2:u5.cell? ⟨X,7,none⟩=some (.float .f64 0):=by rw[zc gX];rfl
 have z2:u5.frozen? ⟨X,7,none⟩=false:=Lib.frozen_of_heap gX 7;have k3:u5.cell? ⟨X,8,none⟩=some (.string ⟨#[]⟩):=by rw[zc gX];rfl
 have z3:u5.frozen? ⟨X,8,none⟩=false:=Lib.frozen_of_heap gX 8;have k4:u5.cell? ⟨X,9,none⟩=some (.slice none 0 0):=by rw[zc gX];rfl
 have z4:u5.frozen? ⟨X,9,none⟩=false:=Lib.frozen_of_heap gX 9;have k5:u5.cell? ⟨X,10,none⟩=some (.slice none 0 0):=by rw[zc gX];rfl
 have z5:u5.frozen? ⟨X,10,none⟩=false:=Lib.frozen_of_heap gX 10;clear i0;go_upto_region 10 with (fail)
 obtain⟨gX,FS⟩:=put17_k gX (.int .i64 y5.kind) (.int .i64 y5.num) (.float .f64 y5.flt) (.string ⟨y5.str.toArray⟩) (.slice na5 nl5 nc5) (.slice ia5 il5 ic5);have gC:=FS.at gC (by simp;omega);have gI:=FS.at gI (by simp;omega);have T5:=S5.kept FS (by simp;omega);have G5:=G4.trans ((hf5.mono (m:=[w.heap.size+1,X]) (by simp)).trans (FS.mono (by simp)));have q5:=hv5.kept (T:=fun g=>X<g) (w':=((((((u5).setCell ⟨X,5,none⟩ (.int .i64 y5.kind)).setCell ⟨X,6,none⟩ (.int .i64 y5.num)).setCell ⟨X,7,none⟩ (.float .f64 y5.flt)).setCell ⟨X,8,none⟩ (.string ⟨y5.str.toArray⟩)).setCell ⟨X,9,none⟩ (.slice na5 nl5 nc5)).setCell ⟨X,10,none⟩ (.slice ia5 il5 ic5)) FS.size (fun g h1 h2=>⟨by omega,FS.block g h2 (by simp;omega)⟩);clear k0 z0 k1 z1 k2 z2 k3 z3 k4 z4 k5 z5 FS hf5 hv5 T4 G4;generalize ((((((u5).setCell ⟨X,5,none⟩ (.int .i64 y5.kind)).setCell ⟨X,6,none⟩ (.int .i64 y5.num)).setCell ⟨X,7,none⟩ (.float .f64 y5.flt)).setCell ⟨X,8,none⟩ (.string ⟨y5.str.toArray⟩)).setCell ⟨X,9,none⟩ (.slice na5 nl5 nc5)).setCell ⟨X,10,none⟩ (.slice ia5 il5 ic5)=v5 at *;have i0:v5.cell? ⟨I,0,none⟩=some (.pointer (some ⟨w.heap.size+1,0,none⟩)):=by rw[zc gI];rfl
 have HS6:=zh (HS.out _ v5 T5);have hsz6:X<v5.heap.size:=lt_of_block gX;go_wp2_with fail
 refine(HS6.out).mono ?_;rintro e u6 ⟨y6,cs6,st7,rfl,hv6,S6,hf6,hi6⟩;obtain⟨na6,nl6,nc6,ia6,il6,ic6,rfl⟩:=hv6.six;have gC:=hf6.at gC hCb;have gI:=hf6.at gI hIb;have gX:=hf6.at gX hXb;have k0:u6.cell? ⟨X,11,none⟩=some (.int .i64 0):=by rw[zc gX];rfl
 have z0:u6.frozen? ⟨X,11,none⟩=false:=Lib.frozen_of_heap gX 11;have k1:u6.cell? ⟨X,12,none⟩=some (.int .i64 0):=by rw[zc gX];rfl
 have z1:u6.frozen? ⟨X,12,none⟩=false:=Lib.frozen_of_heap gX 12;have k2:u6.cell? ⟨X,13,none⟩=some (.float .f64 0):=by rw[zc gX];rfl
 have z2:u6.frozen? ⟨X,13,none⟩=false:=Lib.frozen_of_heap gX 13;have k3:u6.cell? ⟨X,14,none⟩=some (.string ⟨#[]⟩):=by rw[zc gX];rfl
 have z3:u6.frozen? ⟨X,14,none⟩=false:=Lib.frozen_of_heap gX 14;have k4:u6.cell? ⟨X,15,none⟩=some (.slice none 0 0):=by rw[zc gX];rfl
 have z4:u6.frozen? ⟨X,15,none⟩=false:=Lib.frozen_of_heap gX 15;have k5:u6.cell? ⟨X,16,none⟩=some (.slice none 0 0):=by rw[zc gX];rfl
 have z5:u6.frozen? ⟨X,16,none⟩=false:=Lib.frozen_of_heap gX 16;clear i0;go_upto_region 11 with (fail)
 obtain⟨gX,FS⟩:=put17_v gX (.int .i64 y6.kind) (.int .i64 y6.num) (.float .f64 y6.flt) (.string ⟨y6.str.toArray⟩) (.slice na6 nl6 nc6) (.slice ia6 il6 ic6);have gC:=FS.at gC (by simp;omega);have gI:=FS.at gI (by simp;omega);have T6:=S6.kept FS (by simp;omega);have G6:=G5.trans ((hf6.mono (m:=[w.heap.size+1,X]) (by simp)).trans (FS.mono (by simp)));have q6:=hv6.kept (T:=fun g=>X<g) (w':=((((((u6).setCell ⟨X,11,none⟩ (.int .i64 y6.kind)).setCell ⟨X,12,none⟩ (.int .i64 y6.num)).setCell ⟨X,13,none⟩ (.float .f64 y6.flt)).setCell ⟨X,14,none⟩ (.string ⟨y6.str.toArray⟩)).setCell ⟨X,15,none⟩ (.slice na6 nl6 nc6)).setCell ⟨X,16,none⟩ (.slice ia6 il6 ic6)) FS.size (fun g h1 h2=>⟨by omega,FS.block g h2 (by simp;omega)⟩);have q5:=q5.kept (T:=fun g=>X<g) (w':=((((((u6).setCell ⟨X,11,none⟩ (.int .i64 y6.kind)).setCell ⟨X,12,none⟩ (.int .i64 y6.num)).setCell ⟨X,13,none⟩ (.float .f64 y6.flt)).setCell ⟨X,14,none⟩ (.string ⟨y6.str.toArray⟩)).setCell ⟨X,15,none⟩ (.slice na6 nl6 nc6)).setCell ⟨X,16,none⟩ (.slice ia6 il6 ic6)) (Nat.le_trans hf6.size FS.size) (fun g h1 h2=>⟨h1,(FS.block g (Nat.lt_of_lt_of_le h2 hf6.size) (by simp;omega)).trans (hf6.block g h2 (by simp;omega))⟩);clear k0 z0 k1 z1 k2 z2 k3 z3 k4 z4 k5 z5 FS hf6 hv6 T5 G5;generalize ((((((u6).setCell ⟨X,11,none⟩ (.int .i64 y6.kind)).setCell ⟨X,12,none⟩ (.int .i64 y6.num)).setCell ⟨X,13,none⟩ (.float .f64 y6.flt)).setCell ⟨X,14,none⟩ (.string ⟨y6.str.toArray⟩)).setCell ⟨X,15,none⟩ (.slice na6 nl6 nc6)).setCell ⟨X,16,none⟩ (.slice ia6 il6 ic6)=v6 at *;have i0:v6.cell? ⟨I,0,none⟩=some (.pointer (some ⟨w.heap.size+1,0,none⟩)):=by rw[zc gI];rfl
 have HO:=zh (iok_any (w.heap.size+1) 0 s _ v6 T6);go_wp2_with fail
 refine(HO.out).mono ?_;rintro e w9 ⟨rfl,R9,hf9⟩;have gC:=hf9.at gC hCb;have gI:=hf9.at gI hIb;have gX:=hf9.at gX hXb;have q5:=q5.kept (T:=fun g=>X<g) hf9.size (fun g h1 h2=>⟨h1,hf9.block g h2 (by simp;omega)⟩);have q6:=q6.kept (T:=fun g=>X<g) hf9.size (fun g h1 h2=>⟨h1,hf9.block g h2 (by simp;omega)⟩);have hbel9:Below w.heap.size w w9:=f2.trans ((G6.below (B:=w.heap.size) (by have:=f2.size;exact this) (by simp;omega)).trans (hf9.below (by have:=lt_of_block gC;have:=G6.size;have:=f2.size;omega) (by simp)));have hcm:=cmd_isO hi0 hi1 hi2 hi3 hi4 hi5 hi6;have k0:w9.cell? ⟨w.heap.size,0,none⟩=some (.int .i64 0):=by rw[zc gC];rfl
 have z0:w9.frozen? ⟨w.heap.size,0,none⟩=false:=Lib.frozen_of_heap gC 0;have k1:w9.cell? ⟨w.heap.size,1,none⟩=some (.int .i64 0):=by rw[zc gC];rfl
 have z1:w9.frozen? ⟨w.heap.size,1,none⟩=false:=Lib.frozen_of_heap gC 1;have k2:w9.cell? ⟨w.heap.size,2,none⟩=some (.int .i64 0):=by rw[zc gC];rfl
 have z2:w9.frozen? ⟨w.heap.size,2,none⟩=false:=Lib.frozen_of_heap gC 2;have k3:w9.cell? ⟨w.heap.size,3,none⟩=some (.int .i64 0):=by rw[zc gC];rfl
 have z3:w9.frozen? ⟨w.heap.size,3,none⟩=false:=Lib.frozen_of_heap gC 3;have k4:w9.cell? ⟨w.heap.size,4,none⟩=some (.int .i64 0):=by rw[zc gC];rfl
 have z4:w9.frozen? ⟨w.heap.size,4,none⟩=false:=Lib.frozen_of_heap gC 4;have k5:w9.cell? ⟨w.heap.size,5,none⟩=some (.int .i64 0):=by rw[zc gC];rfl
 have z5:w9.frozen? ⟨w.heap.size,5,none⟩=false:=Lib.frozen_of_heap gC 5;have k6:w9.cell? ⟨w.heap.size,6,none⟩=some (.int .i64 0):=by rw[zc gC];rfl
 have z6:w9.frozen? ⟨w.heap.size,6,none⟩=false:=Lib.frozen_of_heap gC 6;have k7:w9.cell? ⟨w.heap.size,7,none⟩=some (.float .f64 0):=by rw[zc gC];rfl
 have z7:w9.frozen? ⟨w.heap.size,7,none⟩=false:=Lib.frozen_of_heap gC 7;have k8:w9.cell? ⟨w.heap.size,8,none⟩=some (.string ⟨#[]⟩):=by rw[zc gC];rfl
 have z8:w9.frozen? ⟨w.heap.size,8,none⟩=false:=Lib.frozen_of_heap gC 8;have k9:w9.cell? ⟨w.heap.size,9,none⟩=some (.slice none 0 0):=by rw[zc gC];rfl
 have z9:w9.frozen? ⟨w.heap.size,9,none⟩=false:=Lib.frozen_of_heap gC 9;have k10:w9.cell? ⟨w.heap.size,10,none⟩=some (.slice none 0 0):=by rw[zc gC];rfl
 have z10:w9.frozen? ⟨w.heap.size,10,none⟩=false:=Lib.frozen_of_heap gC 10;have k11:w9.cell? ⟨w.heap.size,11,none⟩=some (.int .i64 0):=by rw[zc gC];rfl
 have z11:w9.frozen? ⟨w.heap.size,11,none⟩=false:=Lib.frozen_of_heap gC 11;have k12:w9.cell? ⟨w.heap.size,12,none⟩=some (.int .i64 0):=by rw[zc gC];rfl
 have z12:w9.frozen? ⟨w.heap.size,12,none⟩=false:=Lib.frozen_of_heap gC 12;have k13:w9.cell? ⟨w.heap.size,13,none⟩=some (.float .f64 0):=by rw[zc gC];rfl
 have z13:w9.frozen? ⟨w.heap.size,13,none⟩=false:=Lib.frozen_of_heap gC 13;have k14:w9.cell? ⟨w.heap.size,14,none⟩=some (.string ⟨#[]⟩):=by rw[zc gC];rfl
 have z14:w9.frozen? ⟨w.heap.size,14,none⟩=false:=Lib.frozen_of_heap gC 14;have k15:w9.cell? ⟨w.heap.size,15,none⟩=some (.slice none 0 0):=by rw[zc gC];rfl
 have z15:w9.frozen? ⟨w.heap.size,15,none⟩=false:=Lib.frozen_of_heap gC 15;have k16:w9.cell? ⟨w.heap.size,16,none⟩=some (.slice none 0 0):=by rw[zc gC];rfl
 have z16:w9.frozen? ⟨w.heap.size,16,none⟩=false:=Lib.frozen_of_heap gC 16;clear i0 hf9 G6 T6 hi0 hi1 hi2 hi3 hi4 hi5 hi6;rw[HRR.out]at hcm;have hcm:st7=none:=hcm;subst hcm;clear q5 q6 gX;go_upto_region 12 with (fail)
 go_cut [5,6] (fun a b wx=>a=.int .i64 0∧b=.int .i64 5∧wx.heap[w.heap.size]?=some (.cells #[.int .i64 0,.int .i64 0,.int .i64 0,.int .i64 0,.int .i64 0,.int .i64 0,.int .i64 0,.float .f64 0,.string ⟨#[]⟩,.slice none 0 0,.slice none 0 0,.int .i64 0,.int .i64 0,.float .f64 0,.string ⟨#[]⟩,.slice none 0 0,.slice none 0 0] 30 (0,0))∧Below w.heap.size w wx)
 case first =>
  clear k0 z0 k1 z1 k2 z2 k3 z3 k4 z4 k5 z5 k6 z6 k7 z7 k8 z8 k9 z9 k10 z10 k11 z11 k12 z12 k13 z13 k14 z14 k15 z15 k16 z16;refine wp_region_list ?_;refine wpList_do rfl (v:=.agg #[.int .i64 0,.int .i64 0,.int .i64 0,.int .i64 0,.int .i64 0,.int .i64 0,.int .i64 0,.float .f64 0,.string ⟨#[]⟩,.slice none 0 0,.slice none 0 0,.int .i64 0,.int .i64 0,.float .f64 0,.string ⟨#[]⟩,.slice none 0 0,.slice none 0 0]) (w':=w9) (by kernel_rfl) ?_;refine wpList_row rfl rfl rfl rfl rfl (n:=17) (by kernel_rfl) gC rfl rfl (List.all_eq_true.1 (by kernel_rfl)) ?_;intro w' hgF FF;refine wpList_do rfl (v:=.int .i64 0) (w':=w') rfl ?_;refine wpList_do rfl (v:=.int .i64 5) (w':=w') rfl ?_;simp only[wpList,Act.put,List.setIfInBounds_toArray,List.set_cons_zero,List.set_cons_succ];have hfin:=hbel9.trans ((FF.below (Nat.le_of_lt (lt_of_block gC)) (by simp)));go_wp2_with fail
  go_meet;exact⟨rfl,rfl,hgF,hfin⟩
 case rest =>
  obtain⟨rfl,rfl,hgF,hfin⟩:=hcut;clear gC hbel9 k0 z0 k1 z1 k2 z2 k3 z3 k4 z4 k5 z5 k6 z6 k7 z7 k8 z8 k9 z9 k10 z10 k11 z11 k12 z12 k13 z13 k14 z14 k15 z15 k16 z16;obtain⟨yy0,yy1,yy2,yy3,yy4,yy5,yy6,yy7,yy8,yy9,yy10,yy11,yy12,yy13,yy14,yy15,yy16⟩:=cells17 hgF;go_wp2_with fail
  refine bodyPost_ret (v:=.tuple #[.agg #[.int .i64 0,.int .i64 0,.int .i64 0,.int .i64 0,.int .i64 0,.int .i64 0,.int .i64 0,.float .f64 0,.string ⟨#[]⟩,.slice none 0 0,.slice none 0 0,.int .i64 0,.int .i64 0,.float .f64 0,.string ⟨#[]⟩,.slice none 0 0,.slice none 0 0],.int .i64 0,.int .i64 5]) (by simp[results,Tryz.results10,go_sem,yy0,yy1,yy2,yy3,yy4,yy5,yy6,yy7,yy8,yy9,yy10,yy11,yy12,yy13,yy14,yy15,yy16]) rfl ?_;exact⟨rfl,hfin⟩
end Go.Proofs.YtepaaochgljcdaaGreatDoor
