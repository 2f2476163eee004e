/-
  C4, G1, G2, Ye, Yf, Yg, G3, Yh in one text.
-/
import Derived.Shelf.Abstract
import Derived.Test.YtepaaochgljcdaaGreatDoorS03
import Derived.Test.YtepaaochgljcdaaGreatDoorCl
set_option maxRecDepth 100000
set_option maxHeartbeats 4000000
namespace Go.Proofs.YtepaaochgljcdaaGreatDoor
section
open Go.RowKit
theorem reads1_up (p q:Addr) (x y n:Int) (w:World) (hpq:p≠q) (hc:w.cell? p=some (.int .i64 n)) (hz:w.frozen? p=false) (hd:w.cell? q=some (.int .i64 y)) (hy:w.frozen? q=false) :
  CallsD Tryz.prog 123 #[.pointer (some p),.pointer (some q)] (.panicking [{ v:=.iface 33 (.int .i64 x),recovered:=false }]) w fun e u' w' =>
   e=.returned (.tuple #[])∧u'=.panicking [{ v:=.iface 33 (.int .i64 x),recovered:=true }]∧w'=(w.setCell p (.int .i64 0)).setCell q (.int .i64 x):=by
 have hta:=ta_errno x;have hd2:(w.setCell p (.int .i64 0)).cell? q=some (.int .i64 y):=by rw[World.cell?_setCell_other _ _ _ _ hpq];exact hd
 have hy2:(w.setCell p (.int .i64 0)).frozen? q=false:=by rw[World.frozen?_setCell];exact hy
 refine callsD_of_wpS Tryz.func123 rfl fun c₀ cs hu=>?_
 apply wpS_seq
 apply wpS_region
 simp[wpOpsS,go_sem,recoverD,hu,hta,Tryz.ntmps123,Exit.thenS];apply wpS_seq
 apply wpS_region
 simp[wpOpsS,go_sem,Exit.thenS];refine wpS_cond (t:=true) (by simp[Act.eval,Array.replicate]) ?_;simp only[if_true];apply wpS_region
 simp[wpOpsS,go_sem,hc,hz,hd2,hy2,bodyPostS,results,Tryz.results123]
theorem reads1_idle (p q:Addr) (w:World) :
  CallsD Tryz.prog 123 #[.pointer (some p),.pointer (some q)] .returning w fun e u' w'=>e=.returned (.tuple #[])∧u'=.returning∧w'=w:=by
 have hta:=ta_nil;refine callsD_of_wpS Tryz.func123 rfl fun c₀ cs hu=>?_
 apply wpS_seq
 apply wpS_region
 simp[wpOpsS,go_sem,recoverD,hu,hta,Tryz.ntmps123,Exit.thenS];apply wpS_seq
 apply wpS_region
 simp[wpOpsS,go_sem,Exit.thenS];refine wpS_cond (t:=false) (by simp[Act.eval,Array.replicate]) ?_;simp only[Bool.false_eq_true,if_false];refine wpS_of_wp (wp_skip ?_);cases c₀
 simp_all [bodyPostS,results,Tryz.results123]
/-- what a closure that reads leaves: a fact P of the world behind it, and what is left of the text; or it gave up -/
def ClPost (b g:Nat) (s:ByteArray) (P:World→Prop) (r:Option (List UInt8)) (w:World) (e:Ending) (w':World):Prop :=
 match r with
 | some l=>e=.returned (.tuple #[])∧(∃ q,RdB b s (s.size - l.length) q w')∧Fr [b,g] w w'∧P w'
 | none=>(∃ x,x≠0∧e=gave x)∧Fr [b] w w'
/-- what reads leaves -/
def ReadsPost (g:Nat) (s:ByteArray) (P:World→Prop) (r:Option (List UInt8)) (w:World) (e:Ending) (w':World):Prop :=
 match r with
 | some l=>e=.returned (.tuple #[.int .i64 (s.size - l.length:Nat),.int .i64 0])∧Fr [g] w w'∧P w'
 | none=>(∃ x:Int,x≠0∧e=.returned (.tuple #[.int .i64 0,.int .i64 x]))∧Fr [] w w'
theorem reads_any (s:ByteArray) (k:Nat) (hk:k≤s.size) (fn g:Nat) (hen:∀ args w,(callFunc fn args).run Tryz.prog w=.ok (.enter fn args) w) (r:Option (List UInt8)) (P:World→Prop) (w:World) (hg:g<w.heap.size)
  (hP:∀ w1 w2:World,P w1→Fr [w.heap.size,w.heap.size+1] w1 w2→P w2)
  (hcl:∀ W:World,RdB (w.heap.size+1+1) s k 0 W→Fr [] w W→W.heap.size=w.heap.size+3 →
   Calls Tryz.prog fn #[.pointer (some ⟨w.heap.size+1+1,0,none⟩),.pointer (some ⟨g,0,none⟩)] W (ClPost (w.heap.size+1+1) g s P r W)) :
  Calls Tryz.prog 83 #[.string s,.int .i64 (k:Int),.func (.func fn) #[] #[.pointer (some ⟨g,0,none⟩)]] w (ReadsPost g s P r w):=by
 have hmf:∀ (fn:Fn) (first cap:Array Value) (w:World),(Instr.makeFunc fn first cap).run Tryz.prog w=.ok (.func fn first cap) w:=fun _ _ _ _=>rfl
 have t1:decide ((k:Int)<0)=false:=by simp
 have t2:decide ((s.size:Int)<(k:Int))=false:=by simp;omega
 have t3:¬ s.size<k:=by omega
 have hW3:(((w.alloc (.cells #[.int .i64 0] 3)).alloc (.cells #[.int .i64 0] 33)).alloc (.cells #[.string s,.int .i64 (k:Int),.int .i64 0] 187)).heap.size=w.heap.size+3:=by simp
 have hb0:RdB (w.heap.size+1+1) s k 0 (((w.alloc (.cells #[.int .i64 0] 3)).alloc (.cells #[.int .i64 0] 33)).alloc (.cells #[.string s,.int .i64 (k:Int),.int .i64 0] 187)):=by
  have:=heap_alloc_new ((w.alloc (.cells #[.int .i64 0] 3)).alloc (.cells #[.int .i64 0] 33)) (.cells #[.string s,.int .i64 (k:Int),.int .i64 0] 187);rwa [show((w.alloc (.cells #[.int .i64 0] 3)).alloc (.cells #[.int .i64 0] 33)).heap.size=w.heap.size+1+1 by simp]at this
 have hn0:(((w.alloc (.cells #[.int .i64 0] 3)).alloc (.cells #[.int .i64 0] 33)).alloc (.cells #[.string s,.int .i64 (k:Int),.int .i64 0] 187)).heap[w.heap.size]?=some (.cells #[.int .i64 0] 3 (0,0)):=by
  rw[Lib.alloc_old _ _ _ (by simp;omega),Lib.alloc_old _ _ _ (by simp)];exact heap_alloc_new w _
 have he0:(((w.alloc (.cells #[.int .i64 0] 3)).alloc (.cells #[.int .i64 0] 33)).alloc (.cells #[.string s,.int .i64 (k:Int),.int .i64 0] 187)).heap[w.heap.size+1]?=some (.cells #[.int .i64 0] 33 (0,0)):=by
  rw[Lib.alloc_old _ _ _ (by simp)];have:=heap_alloc_new (w.alloc (.cells #[.int .i64 0] 3)) (.cells #[.int .i64 0] 33);rwa [show(w.alloc (.cells #[.int .i64 0] 3)).heap.size=w.heap.size+1 by simp]at this
 have hf0:Fr [] w (((w.alloc (.cells #[.int .i64 0] 3)).alloc (.cells #[.int .i64 0] 33)).alloc (.cells #[.string s,.int .i64 (k:Int),.int .i64 0] 187)) :=
  (((Fr.refl [] w).alloc _).alloc _).alloc _
 have HC:=zh (hcl _ hb0 hf0 hW3);clear hcl;have HPP:=zh hP;clear hP;have HB0:=zh hb0;have HN0:=zh hn0;have HE0:=zh he0;clear hb0 hn0 he0;cases r with
 | none =>
  go_enter_defers Tryz.func83,Tryz.ntmps83
  go_wp2_with fail
  refine(HC.out).mono ?_;rintro e w1 ⟨⟨x,hx,rfl⟩,hf1⟩;have hn1:=hf1.at HN0.out (by simp<;>omega)
  have he1:=hf1.at HE0.out (by simp<;>omega)
  have n0:w1.cell? ⟨w.heap.size,0,none⟩=some (.int .i64 0):=by rw[zc hn1];rfl
  have e0:w1.cell? ⟨w.heap.size+1,0,none⟩=some (.int .i64 0):=by rw[zc he1];rfl
  have nz:w1.frozen? ⟨w.heap.size,0,none⟩=false:=Lib.frozen_of_heap hn1 0;have ez:w1.frozen? ⟨w.heap.size+1,0,none⟩=false:=Lib.frozen_of_heap he1 0;have hne:(⟨w.heap.size,0,none⟩:Addr)≠⟨w.heap.size+1,0,none⟩:=by intro h;injection h with h;omega
  have hff:=(((hf0.mono (m:=[w.heap.size+1+1,w.heap.size,w.heap.size+1]) (by simp)).trans (hf1.mono (by simp))).setCell ⟨w.heap.size,0,none⟩ (by simp) (.int .i64 0)).setCell ⟨w.heap.size+1,0,none⟩ (by simp) (.int .i64 x);go_wp2_with fail
  refine leaves_cons (f:=123) (args:=#[.pointer (some ⟨w.heap.size,0,none⟩),.pointer (some ⟨w.heap.size+1,0,none⟩)]) (by simp) (by simp[go_sem]) ?_;refine(reads1_up ⟨w.heap.size,0,none⟩ ⟨w.heap.size+1,0,none⟩ x 0 0 _ hne n0 nz e0 ez).mono ?_;rintro e u' w'' ⟨rfl,rfl,rfl⟩;have q0:((w1.setCell ⟨w.heap.size,0,none⟩ (.int .i64 0)).setCell ⟨w.heap.size+1,0,none⟩ (.int .i64 x)).cell? ⟨w.heap.size,0,none⟩=some (.int .i64 0):=by
   rw[World.cell?_setCell_other _ _ _ _ hne.symm];exact World.cell?_setCell_same _ _ _ n0
  have q1:((w1.setCell ⟨w.heap.size,0,none⟩ (.int .i64 0)).setCell ⟨w.heap.size+1,0,none⟩ (.int .i64 x)).cell? ⟨w.heap.size+1,0,none⟩=some (.int .i64 x) :=
   World.cell?_setCell_same _ _ _ (by rw[World.cell?_setCell_other _ _ _ _ hne];exact e0)
  simp[Leaves,settle,results,Tryz.results83,go_sem,q0,q1];exact⟨⟨x,hx,rfl⟩,⟨hff.os,hff.tape,hff.output,hff.size,fun i hi hn=>hff.block i hi (by simp at hn ⊢;omega)⟩⟩
 | some l =>
  go_enter_defers Tryz.func83,Tryz.ntmps83
  go_wp2_with fail
  refine(HC.out).mono ?_;rintro e w1 ⟨rfl,⟨q,hr1⟩,hf1,hP1⟩;have hn1:=hf1.at HN0.out (by simp<;>omega)
  have he1:=hf1.at HE0.out (by simp<;>omega)
  have n0:w1.cell? ⟨w.heap.size,0,none⟩=some (.int .i64 0):=by rw[zc hn1];rfl
  have e0:w1.cell? ⟨w.heap.size+1,0,none⟩=some (.int .i64 0):=by rw[zc he1];rfl
  have nz:w1.frozen? ⟨w.heap.size,0,none⟩=false:=Lib.frozen_of_heap hn1 0;have ez:w1.frozen? ⟨w.heap.size+1,0,none⟩=false:=Lib.frozen_of_heap he1 0;have r1:=hr1.c1;generalize hk2:s.size - l.length=k2 at *;have HK2:=zh hk2;clear hk2;have hne:(⟨w.heap.size,0,none⟩:Addr)≠⟨w.heap.size+1,0,none⟩:=by intro h;injection h with h;omega
  have hff:=(((hf0.mono (m:=[w.heap.size+1+1,g,w.heap.size,w.heap.size+1]) (by simp)).trans (hf1.mono (by simp))).setCell ⟨w.heap.size,0,none⟩ (by simp) (.int .i64 (k2:Int))).setCell ⟨w.heap.size+1,0,none⟩ (by simp) (.int .i64 0);have hPf:=HPP.out _ _ hP1 (((Fr.refl [w.heap.size,w.heap.size+1] w1).setCell ⟨w.heap.size,0,none⟩ (by simp) (.int .i64 (k2:Int))).setCell ⟨w.heap.size+1,0,none⟩ (by simp) (.int .i64 0));go_wp2_with fail
  refine leaves_cons (f:=123) (args:=#[.pointer (some ⟨w.heap.size,0,none⟩),.pointer (some ⟨w.heap.size+1,0,none⟩)]) (by simp) (by simp[go_sem]) ?_;refine(reads1_idle ⟨w.heap.size,0,none⟩ ⟨w.heap.size+1,0,none⟩ _).mono ?_;rintro e u' w'' ⟨rfl,rfl,rfl⟩;have q0:((w1.setCell ⟨w.heap.size,0,none⟩ (.int .i64 (k2:Int))).setCell ⟨w.heap.size+1,0,none⟩ (.int .i64 0)).cell? ⟨w.heap.size,0,none⟩=some (.int .i64 (k2:Int)):=by
   rw[World.cell?_setCell_other _ _ _ _ hne.symm];exact World.cell?_setCell_same _ _ _ n0
  have q1:((w1.setCell ⟨w.heap.size,0,none⟩ (.int .i64 (k2:Int))).setCell ⟨w.heap.size+1,0,none⟩ (.int .i64 0)).cell? ⟨w.heap.size+1,0,none⟩=some (.int .i64 0) :=
   World.cell?_setCell_same _ _ _ (by rw[World.cell?_setCell_other _ _ _ _ hne];exact e0)
  simp[Leaves,settle,results,Tryz.results83,go_sem,q0,q1];exact⟨by rw[HK2.out],⟨hff.os,hff.tape,hff.output,hff.size,fun i hi hn=>hff.block i hi (by simp at hn ⊢;omega)⟩,hPf⟩
theorem enters_ru:∀ args w,(callFunc 84 args).run Tryz.prog w=.ok (.enter 84 args) w:=enters_of Tryz.func84 (by kernel_rfl) rfl
def restU:Option (Nat × List UInt8)→Option (List UInt8)
 | none=>none
 | some r=>some r.2
/-- the number that was read lies there -/
def UintAt (g:Nat) (r:Option (Nat × List UInt8)) (w:World):Prop:=∀ x,r=some x→w.heap[g]?=some (.cells #[.int .u64 (x.1:Int)] 117 (0,0))
theorem ru1_any (s:ByteArray) (hs:s.size≤100000000) (b k q g:Nat) (hk:k≤s.size) (hbg:b≠g) (w:World) (hb:RdB b s k q w) (hg:w.heap[g]?=some (.cells #[.int .u64 0] 117 (0,0))) :
  Calls Tryz.prog 84 #[.pointer (some ⟨b,0,none⟩),.pointer (some ⟨g,0,none⟩)] w
   (ClPost b g s (UintAt g (rdU (s.data.toList.drop k))) (restU (rdU (s.data.toList.drop k))) w):=by
 have HU:=cuintR_any s hs b k q hk w hb;generalize rdU (s.data.toList.drop k)=r at *;cases r with
 | none =>
  have HU:=zh HU;go_in;go_wp2_with fail
  refine(HU.out).mono ?_;rintro e w1 ⟨⟨x,hx,rfl⟩,hf1⟩;go_wp2_with fail
  exact⟨rfl,⟨x,hx,rfl⟩,hf1⟩
 | some r =>
  obtain⟨n,l⟩:=r;have HU:=zh HU;go_in;go_wp2_with fail
  refine(HU.out).mono ?_;rintro e w1 ⟨rfl,hr1,hf1⟩;have hg1:=hf1.at hg (by simp;omega);have c0:w1.cell? ⟨g,0,none⟩=some (.int .u64 0):=by rw[zc hg1];rfl
  have f0:w1.frozen? ⟨g,0,none⟩=false:=Lib.frozen_of_heap hg1 0;dsimp only;go_wp2_with fail
  go_end0;exact⟨rfl,⟨q,(Below.heap_setCell _ _ _ _ hbg).trans hr1⟩,(hf1.mono (by simp)).setCell _ (by simp) _,fun x h=>by
   cases h
   exact heap_setN hg1 0 _⟩
/-- what ReadUint leaves -/
def RuPost (s:ByteArray) (r:Option (Nat × List UInt8)) (w:World) (e:Ending) (w':World):Prop :=
 match r with
 | some v=>e=.returned (.tuple #[.int .u64 (v.1:Int),.int .i64 (s.size - v.2.length:Nat),.int .i64 0])∧Below w.heap.size w w'
 | none=>(∃ x:Int,x≠0∧e=.returned (.tuple #[.int .u64 0,.int .i64 0,.int .i64 x]))∧Below w.heap.size w w'
theorem ReadUint_any (s:ByteArray) (hs:s.size≤100000000) (k:Nat) (hk:k≤s.size) (w:World) :
  Calls Tryz.prog 53 #[.string s,.int .i64 (k:Int)] w (RuPost s (rdU (s.data.toList.drop k)) w):=by
 have hmf:∀ (fn:Fn) (first cap:Array Value) (w:World),(Instr.makeFunc fn first cap).run Tryz.prog w=.ok (.func fn first cap) w:=fun _ _ _ _=>rfl
 have hen:=enters_ru;have hg0:(w.alloc (.cells #[.int .u64 0] 117)).heap[w.heap.size]?=some (.cells #[.int .u64 0] 117 (0,0)):=heap_alloc_new w _;have hf0:=(Fr.refl [] w).alloc (.cells #[.int .u64 0] 117);have hsz:(w.alloc (.cells #[.int .u64 0] 117)).heap.size=w.heap.size+1:=by simp
 have HR:=reads_any s k hk 84 w.heap.size hen (restU (rdU (s.data.toList.drop k))) (UintAt w.heap.size (rdU (s.data.toList.drop k))) (w.alloc (.cells #[.int .u64 0] 117)) (by simp)
  (fun w1 w2 h1 h2 x hx=>h2.at (h1 x hx) (by rw[hsz];simp;omega))
  (fun W hb hf hz=>ru1_any s hs _ k 0 w.heap.size hk (by rw[hsz];omega) W hb (hf.at hg0 (by simp)))
 generalize rdU (s.data.toList.drop k)=r at *;have HG:=zh hg0;clear hg0;cases r with
 | none =>
  have HR:=zh HR;go_in;go_wp2_with fail
  refine(HR.out).mono ?_;rintro e w1 ⟨⟨x,hx,rfl⟩,hf1⟩;have hg1:=hf1.at HG.out (by simp);have c0:w1.cell? ⟨w.heap.size,0,none⟩=some (.int .u64 0):=by rw[zc hg1];rfl
  have f0:w1.frozen? ⟨w.heap.size,0,none⟩=false:=Lib.frozen_of_heap hg1 0;go_wp2_with fail
  have hc:(w1.setCell ⟨w.heap.size,0,none⟩ (.int .u64 0)).cell? ⟨w.heap.size,0,none⟩=some (.int .u64 0):=World.cell?_setCell_same _ _ _ c0;exact bodyPost_ret (v:=.tuple #[.int .u64 0,.int .i64 0,.int .i64 x]) (by simp[results,Tryz.results53,go_sem,hc]) rfl
   ⟨⟨x,hx,rfl⟩,((((hf0.trans hf1).mono (m:=[w.heap.size]) (by simp)).setCell ⟨w.heap.size,0,none⟩ (by simp) _).below (Nat.le_refl _) (by simp))⟩
 | some r =>
  obtain⟨n,l⟩:=r;have HR:=zh HR;generalize hk2:s.size - l.length=k2 at *;have HK2:=zh hk2;clear hk2;go_in;go_wp2_with fail
  refine(HR.out).mono ?_;rintro e w1 ⟨he,hf1,hP⟩;have he2:e=.returned (.tuple #[.int .i64 (k2:Int),.int .i64 0]):=by rw[he,←HK2.out]
  subst he2;clear he;have hg1:w1.heap[w.heap.size]?=some (.cells #[.int .u64 (n:Int)] 117 (0,0)):=hP _ rfl;have c0:w1.cell? ⟨w.heap.size,0,none⟩=some (.int .u64 (n:Int)):=by rw[zc hg1];rfl
  have f0:w1.frozen? ⟨w.heap.size,0,none⟩=false:=Lib.frozen_of_heap hg1 0;go_wp2_with fail
  have hc:(w1.setCell ⟨w.heap.size,0,none⟩ (.int .u64 (n:Int))).cell? ⟨w.heap.size,0,none⟩=some (.int .u64 (n:Int)):=World.cell?_setCell_same _ _ _ c0;exact bodyPost_ret (v:=.tuple #[.int .u64 (n:Int),.int .i64 (k2:Int),.int .i64 0]) (by simp[results,Tryz.results53,go_sem,hc]) rfl
   ⟨by rw[←HK2.out],(((((hf0.mono (m:=[w.heap.size]) (by simp)).trans hf1)).setCell ⟨w.heap.size,0,none⟩ (by simp) _).below (Nat.le_refl _) (by simp))⟩
end
section
open Go.RowKit
/-- a Reader in its block: the bytes still to come, or an error; p parts begun -/
def RdAt (b:Nat) (s:ByteArray) (st:Option (List UInt8)) (p:Nat) (w:World):Prop :=
 ∃ (k:Nat) (e:Int),w.heap[b]?=some (.cells #[.string s,.int .i64 (k:Int),.int .i64 e,.int .i64 (p:Int)] 77 (0,0))∧k≤s.size∧(∀ l,st=some l→e=0∧l=s.data.toList.drop k)∧(st=none→e≠0)
theorem RdAt.kept {b p:Nat} {s:ByteArray} {st:Option (List UInt8)} {w w':World} {l:List Nat} (h:RdAt b s st p w) (hf:Fr l w w') (hn:b ∉ l):RdAt b s st p w':=by
 obtain⟨k,e,h1,h2⟩:=h;exact⟨k,e,hf.at h1 hn,h2⟩
theorem RdAt.below {b p:Nat} {s:ByteArray} {st:Option (List UInt8)} {w w':World} (h:RdAt b s st p w) (hb:Below w.heap.size w w'):RdAt b s st p w':=by
 obtain⟨k,e,h1,h2⟩:=h;exact⟨k,e,(hb.block _ (lt_of_block h1)).trans h1,h2⟩
theorem RdAt.drewN {b p:Nat} {s:ByteArray} {st:Option (List UInt8)} {w:World} (h:RdAt b s st p w) (n:Nat):RdAt b s st p (w.drewN n):=h
theorem RdAt.lt {b p:Nat} {s:ByteArray} {st:Option (List UInt8)} {w:World} (h:RdAt b s st p w):b<w.heap.size:=by
 obtain⟨k,e,h1,_⟩:=h;exact lt_of_block h1
/-- what is read, and the bytes behind it; d: what is answered in place of what is not there -/
def outR {α:Type} (d:α) (r:Option (α × List UInt8)):α × Option (List UInt8):=match r with
 | none=>(d,none)
 | some x=>(x.1,some x.2)
/-- a Reader's call: what it answers, what it leaves -/
def RdCall (b:Nat) (s:ByteArray) (p:Nat) (w:World) (x:Value × Option (List UInt8)) (e:Ending) (w':World):Prop:=e=.returned x.1∧RdAt b s x.2 p w'∧Fr [b] w w'
def byteR:List UInt8→Option (Nat × List UInt8)
 | []=>none
 | c::l=>some (c.toNat,l)
theorem rfail_any (e0:Int) (he:e0≠0) (b p:Nat) (s:ByteArray) (st:Option (List UInt8)) (w:World) (h:RdAt b s st p w) :
  Calls Tryz.prog 91 #[.pointer (some ⟨b,0,none⟩),.int .i64 e0] w fun e w'=>e=.returned (.tuple #[])∧RdAt b s none p w'∧Fr [b] w w':=by
 obtain⟨k,e,hg,hk,h1,h2⟩:=h;have z2:w.frozen? ⟨b,2,none⟩=false:=Lib.frozen_of_heap hg 2;have c2:w.cell? ⟨b,2,none⟩=some (.int .i64 e):=by rw[zc hg];rfl
 by_cases h0:e=0
 ·have t0:(e==0)=true:=by rw[h0];rfl
  have hO:RdAt b s none p (w.setCell ⟨b,2,none⟩ (.int .i64 e0)):=⟨k,e0,heap_setN hg 2 _,hk,(fun _ h=>nomatch h),fun _=>he⟩;have hF:=(Fr.refl [b] w).setCell ⟨b,2,none⟩ (by simp) (.int .i64 e0);clear h0 hg h1 h2 he;go_in;go_wp2_with fail
  go_end0;exact⟨rfl,hO,hF⟩
 ·have t0:(e==0)=false:=beq_eq_false_iff_ne.2 h0;have hO:RdAt b s none p w:=⟨k,e,hg,hk,(fun _ h=>nomatch h),fun _=>h0⟩;clear h0 hg h1 h2 he;go_in;go_wp2_with fail
  go_end0;exact⟨rfl,hO,Fr.refl _ _⟩
theorem rbyte_any (b p:Nat) (s:ByteArray) (hs:s.size≤1000000) (st:Option (List UInt8)) (w:World) (h:RdAt b s st p w) :
  Calls Tryz.prog 58 #[.pointer (some ⟨b,0,none⟩)] w (RdCall b s p w ((fun x=>(.int .i64 ((x.1:Nat):Int),x.2)) (outR 0 (st.bind byteR)))):=by
 obtain⟨k,e,hg,hk,h1,h2⟩:=h;have c0:w.cell? ⟨b,0,none⟩=some (.string s):=by rw[zc hg];rfl
 have c1:w.cell? ⟨b,1,none⟩=some (.int .i64 (k:Int)):=by rw[zc hg];rfl
 have c2:w.cell? ⟨b,2,none⟩=some (.int .i64 e):=by rw[zc hg];rfl
 have c3:w.cell? ⟨b,3,none⟩=some (.int .i64 (p:Int)):=by rw[zc hg];rfl
 have z1:w.frozen? ⟨b,1,none⟩=false:=Lib.frozen_of_heap hg 1;have HF:=zh (fun st (w:World) (h:RdAt b s st p w)=>rfail_any 14 (by decide) b p s st w h);have HG:=zh hg;clear hg;cases st with
 | none =>
  have t0:(e != 0)=true:=by rw[bne_iff_ne];exact h2 rfl
  have hO:RdAt b s none p w:=⟨k,e,HG.out,hk,(fun _ h=>nomatch h),h2⟩;clear h1 h2;go_in;go_wp2_with fail
  go_ret;exact⟨rfl,hO,Fr.refl _ _⟩
 | some l =>
  obtain⟨rfl,hl⟩:=h1 l rfl;have hlen:s.data.toList.length=s.size:=by simp
  clear h1 h2;by_cases hlt:k<s.size
  ·have t1:decide ((s.size:Int)≤(k:Int))=false:=by simp;omega
   have t1':¬ s.size≤k:=by omega
   have hd:=drop_byte (l:=s.data.toList) (k:=k) (by omega);have hgc:s.data.toList.getD k 0=s[k]'hlt:=by simp[List.getD,hlt];rfl
   rw[hgc]at hd;have hO:RdAt b s (some (s.data.toList.drop (k+1))) p (w.setCell ⟨b,1,none⟩ (.int .i64 ((k:Int)+1))):=⟨k+1,0,heap_setN HG.out 1 _,by omega,(fun l h=>by cases h;exact⟨rfl,rfl⟩),(fun h=>nomatch h)⟩
   have hX:(fun x:Nat × Option (List UInt8)=>((.int .i64 ((x.1:Nat):Int):Value),x.2)) (outR 0 ((some l).bind byteR))=(.int .i64 ((s[k]'hlt).toNat:Int),some (s.data.toList.drop (k+1))):=by
    rw[hl,hd];rfl
   rw[hX];have hFr:=(Fr.refl [b] w).setCell ⟨b,1,none⟩ (by simp) (.int .i64 ((k:Int)+1));have HO:=zh hO;have HFr:=zh hFr;have w1:IntKind.i64.wrap ((k:Int)+1 - 1)=(k:Int):=by rw[IntKind.wrap_i64];omega
   have b1:(0:Int)≤(k:Int):=by omega
   have b2:(k:Int)<(s.size:Int):=by omega
   have hc:=(s[k]'hlt).toNat_lt;clear hX hd hgc hl hlen hO hFr;go_in;go_wp2_with fail
   go_quiet (fail)
   go_wp2_with fail
   have A1:RdAt b s (some (s.data.toList.drop (k+1))) p ((w.drewN nq).setCell ⟨b,1,none⟩ (.int .i64 ((k:Int)+1))):=HO.out;have A2:=((Fr.refl [b] w).drewN nq).setCell ⟨b,1,none⟩ (by simp) (.int .i64 ((k:Int)+1));have hg2:((w.drewN nq).setCell ⟨b,1,none⟩ (.int .i64 ((k:Int)+1))).heap[b]?=some (.cells #[.string s,.int .i64 ((k:Int)+1),.int .i64 0,.int .i64 (p:Int)] 77 (0,0)):=heap_setN (show(w.drewN nq).heap[b]?=_ from HG.out) 1 _;clear c0 c1 c2 c3 z1 t1 t1';generalize (w.drewN nq).setCell ⟨b,1,none⟩ (.int .i64 ((k:Int)+1))=W2 at *;obtain⟨c0,c1,-⟩:=cells4 hg2;clear hg2;go_quiet (fail)
   go_wp2_with fail
   go_ret;exact⟨rfl,A1.drewN _,A2.drewN _⟩
  ·have t1:decide ((s.size:Int)≤(k:Int))=true:=by simp;omega
   have t1':s.size≤k:=by omega
   have hd:l=[]:=by rw[hl,List.drop_eq_nil_of_le (by omega)]
   subst hd;have hO:RdAt b s (some []) p w:=⟨k,0,HG.out,hk,(fun l h=>by cases h;exact⟨rfl,hl⟩),(fun h=>nomatch h)⟩
   have HO:=zh hO;clear hl hlen hO;go_in;go_wp2_with fail
   go_quiet (fail)
   go_wp2_with fail
   refine(HF.out _ _ (HO.out.drewN _)).mono ?_;rintro e w2 ⟨rfl,hO2,hF2⟩;go_wp2_with fail
   go_ret;exact⟨rfl,hO2,((Fr.refl [b] w).drewN _).trans hF2⟩
end
section
open Go.RowKit
theorem shl7 {i a c:Nat} (hi:i≤9) (ha:a<128 ^ i) (hc:c<256) (h9:i=9→c≤1):128 ^ i*(c % 128)<18446744073709551616∧a+128 ^ i*(c % 128)<18446744073709551616:=by
 have h:=bits7 hi ha hc h9;have hp:128 ^ i≤128 ^ 9:=Nat.pow_le_pow_right (by omega) hi;have hm:128 ^ i*(c % 128)+128 ^ i≤18446744073709551616:=by
  by_cases h:i=9
  ·subst h;have:=h9 rfl;have:c % 128≤1:=by omega
   have h2:=Nat.mul_le_mul_left (128 ^ 9) this;have h3:128 ^ 9*1+128 ^ 9=18446744073709551616:=by decide
   omega
  ·have h8:128 ^ i≤128 ^ 8:=Nat.pow_le_pow_right (by omega) (by omega);have h7:c % 128≤127:=by omega
   have h2:=Nat.mul_le_mul h8 h7;have h3:128 ^ 8*127+128 ^ 8≤18446744073709551616:=by decide
   omega
 have hp1:0<128 ^ i:=Nat.pow_pos (by omega);constructor
 ·omega
 ·omega
theorem shl7w {i a c:Nat} (hi:i≤9) (ha:a<128 ^ i) (hc:c<256) (h9:i=9→c≤1) :
  IntKind.u64.wrap ((a:Int)+IntKind.u64.wrap (((c % 128:Nat):Int)*2 ^ (7*i)))=((a+128 ^ i*(c % 128):Nat):Int):=by
 obtain⟨h1,h2⟩:=shl7 hi ha hc h9;have e2:((c % 128:Nat):Int)*2 ^ (7*i)=((128 ^ i*(c % 128):Nat):Int):=by
  rw[Int.natCast_mul,←pow_128,Int.natCast_pow,Int.mul_comm];rfl
 have e3:IntKind.u64.wrap ((128 ^ i*(c % 128):Nat):Int)=((128 ^ i*(c % 128):Nat):Int):=by rw[IntKind.wrap_u64];omega
 rw[e2,e3,IntKind.wrap_u64];omega
theorem ruint_any (b p:Nat) (s:ByteArray) (hs:s.size≤1000000) (st:Option (List UInt8)) (w:World) (h:RdAt b s st p w) :
  Calls Tryz.prog 56 #[.pointer (some ⟨b,0,none⟩)] w (RdCall b s p w ((fun x=>(.int .u64 ((x.1:Nat):Int),x.2)) (outR 0 (st.bind rdU)))):=by
 have HY:=zh (fun st (w:World) (h:RdAt b s st p w)=>rbyte_any b p s hs st w h);have HF:=zh (fun st (w:World) (h:RdAt b s st p w)=>rfail_any 5 (by decide) b p s st w h);have h0:Hid (outR 0 (st.bind rdU)=outR 0 (addU 0 0 (st.bind (rdUF (10 - 0))))):=by show _=_;rw[addU_zero];rfl
 generalize outR 0 (st.bind rdU)=Q at *;go_in;go_wp2_with fail
 go_loopw [3,4] (fun nv iv wr=>∃ (i a:Nat) (q:Option (List UInt8)),nv=.int .u64 (a:Int)∧iv=.int .i64 (i:Int)∧i≤9∧a<128 ^ i∧RdAt b s q p wr∧Fr [b] w wr∧Hid (Q=outR 0 (addU a i (q.bind (rdUF (10 - i)))))) (fun _ iv _=>10 - (intOf iv).toNat)
 case atStart=>exact⟨0,0,st,rfl,rfl,by omega,by omega,h,Fr.refl _ _,h0⟩
 case round =>
  clear h h0;obtain⟨i,a,q,rfl,rfl,hi,ha,hrd,hfr,hE⟩:=hrel;have HB:=zh (HY.out q wr hrd);cases q with
  | none =>
   have HQ:Hid (Q=(0,none)):=hE.out;go_wp2_with fail
   refine(HB.out).mono ?_;rintro e w1 ⟨rfl,hr1,hf1⟩;obtain⟨k1,e1,hg1,hk1,g1,g2⟩:=hr1;have c2:w1.cell? ⟨b,2,none⟩=some (.int .i64 e1):=by rw[zc hg1];rfl
   have t0:(e1 != 0)=true:=by rw[bne_iff_ne];exact g2 rfl
   have hO:RdAt b s none p w1:=⟨k1,e1,hg1,hk1,(fun _ h=>nomatch h),g2⟩;clear g1 g2 hg1;go_wp2_with fail
   go_ret;exact⟨ret_val (by rw[HQ.out];rfl),by rw[HQ.out];exact hO,hfr.trans hf1⟩
  | some l0 =>
   cases l0 with
   | nil =>
    have HQ:Hid (Q=(0,none)):=by
     show _=_;rw[hE.out,show 10 - i=(9 - i)+1 by omega];rfl
    go_wp2_with fail
    refine(HB.out).mono ?_;rintro e w1 ⟨rfl,hr1,hf1⟩;obtain⟨k1,e1,hg1,hk1,g1,g2⟩:=hr1;have c2:w1.cell? ⟨b,2,none⟩=some (.int .i64 e1):=by rw[zc hg1];rfl
    have t0:(e1 != 0)=true:=by rw[bne_iff_ne];exact g2 rfl
    have hO:RdAt b s none p w1:=⟨k1,e1,hg1,hk1,(fun _ h=>nomatch h),g2⟩;clear g1 g2 hg1;go_wp2_with fail
    go_ret;exact⟨ret_val (by rw[HQ.out];rfl),by rw[HQ.out];exact hO,hfr.trans hf1⟩
   | cons c l =>
    have hE2:Q=outR 0 (addU a i (rdUF (10 - i) (c::l))):=hE.out;rw[show 10 - i=(9 - i)+1 by omega,rdUF]at hE2;have hc:=c.toNat_lt;have HB':=zh (show Calls Tryz.prog 58 #[.pointer (some ⟨b,0,none⟩)] wr (RdCall b s p wr (.int .i64 (c.toNat:Int),some l)) from HB.out);have t9:decide ((9:Int)<(i:Int))=false:=by simp;omega
    clear HB hE;by_cases hbad:(i=9∧1<c.toNat)∨(0<i∧c.toNat=0)
    ·rw[if_pos (by omega)]at hE2;have HQ:Hid (Q=(0,none)):=hE2;have hcase:(((i:Int)==9)=true∧decide ((1:Int)<(c.toNat:Int))=true)∨(((i:Int)==9)=true∧decide ((1:Int)<(c.toNat:Int))=false∧0<i∧((c.toNat:Int)==0)=true)∨(((i:Int)==9)=false∧0<i∧((c.toNat:Int)==0)=true):=by
      simp;omega
     clear hbad hE2;rcases hcase with ⟨t1,t2⟩|⟨t1,t2,t3,t4⟩|⟨t1,t3,t4⟩;all_goals
      go_wp2_with fail
      refine(HB'.out).mono ?_;rintro e w1 ⟨rfl,hr1,hf1⟩;obtain⟨k1,e1,hg1,hk1,g1,g2⟩:=hr1;have c2:w1.cell? ⟨b,2,none⟩=some (.int .i64 e1):=by rw[zc hg1];rfl
      obtain⟨h1,hl1⟩:=g1 _ rfl;subst h1;have hO:RdAt b s (some l) p w1:=⟨k1,0,hg1,hk1,(fun l h=>by cases h;exact⟨rfl,hl1⟩),(fun h=>nomatch h)⟩
      have HO:=zh hO;clear g1 g2 hg1 hl1 hO;go_wp2_with fail
      refine(HF.out _ _ HO.out).mono ?_;rintro e w2 ⟨rfl,hO2,hF2⟩;go_wp2_with fail
      go_ret;exact⟨ret_val (by rw[HQ.out];rfl),by rw[HQ.out];exact hO2,(hfr.trans hf1).trans hF2⟩
    ·rw[if_neg (by omega)]at hE2;have hcase:(((i:Int)==9)=false∧¬ 0<i)∨(((i:Int)==9)=false∧0<i∧((c.toNat:Int)==0)=false)∨(((i:Int)==9)=true∧decide ((1:Int)<(c.toNat:Int))=false∧0<i∧((c.toNat:Int)==0)=false):=by
      simp;omega
     have hW:=shl7w hi ha hc (by omega);obtain⟨m,hm0⟩:∃ m:Nat,m=c.toNat % 128:=⟨_,rfl⟩;rw[←hm0]at hW;have hm:(c.toNat:Int) % 128=(m:Int):=by omega
     have hm3:IntKind.u64.wrap (m:Int)=(m:Int):=by rw[IntKind.wrap_u64];omega
     have hm4:(0:Int)≤7*(i:Int):=by omega
     have hm5:IntKind.i64.wrap (7*(i:Int))=7*(i:Int):=by rw[IntKind.wrap_i64];omega
     have hm6:(7*(i:Int)).toNat=7*i:=by omega
     have HW:=zh hW;clear hW;by_cases h128:c.toNat<128
     ·have t5:decide ((c.toNat:Int)<128)=true:=by simp;omega
      rw[if_pos h128,addU_end h128,←hm0]at hE2;have HQ:=zh hE2;clear hbad hE2 h128 hm0;rcases hcase with ⟨t1,t3⟩|⟨t1,t3,t4⟩|⟨t1,t2,t3,t4⟩;all_goals
       go_wp2_with fail
       refine(HB'.out).mono ?_;rintro e w1 ⟨rfl,hr1,hf1⟩;obtain⟨k1,e1,hg1,hk1,g1,g2⟩:=hr1;have c2:w1.cell? ⟨b,2,none⟩=some (.int .i64 e1):=by rw[zc hg1];rfl
       obtain⟨h1,hl1⟩:=g1 _ rfl;subst h1;have hO:RdAt b s (some l) p w1:=⟨k1,0,hg1,hk1,(fun l h=>by cases h;exact⟨rfl,hl1⟩),(fun h=>nomatch h)⟩
       have HO:=zh hO;clear g1 g2 hg1 hl1 hO;go_wp2_with fail
       go_ret;exact⟨ret_val (by rw[HQ.out];exact congrArg (Value.int .u64) HW.out),by rw[HQ.out];exact HO.out,hfr.trans hf1⟩
     ·have t5:decide ((c.toNat:Int)<128)=false:=by simp;omega
      rw[if_neg h128]at hE2;have hE3:Q=outR 0 (addU (a+128 ^ i*(c.toNat % 128)) (i+1) (rdUF (9 - i) l)):=hE2.trans (congrArg (outR 0) (addU_go a i c.toNat (rdUF (9 - i) l)));rw[←hm0]at hE3;have HQ:=zh hE3;have h9:i≤8:=by omega
      have hacc:=acc_lt (c:=c.toNat) ha;rw[←hm0]at hacc;clear hbad hE2 hE3 h128 hm0;rcases hcase with ⟨t1,t3⟩|⟨t1,t3,t4⟩|⟨t1,t2,t3,t4⟩
      ·go_wp2_with fail
       refine(HB'.out).mono ?_;rintro e w1 ⟨rfl,hr1,hf1⟩;obtain⟨k1,e1,hg1,hk1,g1,g2⟩:=hr1;have c2:w1.cell? ⟨b,2,none⟩=some (.int .i64 e1):=by rw[zc hg1];rfl
       obtain⟨h1,hl1⟩:=g1 _ rfl;subst h1;have hO:RdAt b s (some l) p w1:=⟨k1,0,hg1,hk1,(fun l h=>by cases h;exact⟨rfl,hl1⟩),(fun h=>nomatch h)⟩
       have HO:=zh hO;clear g1 g2 hg1 hl1 hO;go_wp2_with fail
       go_roundw
       case rel=>exact⟨i+1,_,some l,congrArg (Value.int .u64) HW.out,by go_num,by omega,hacc,HO.out,hfr.trans hf1,by show _=_;rw[HQ.out,show 10 - (i+1)=9 - i by omega];rfl⟩
       case measure=>simp[intOf];omega
      ·go_wp2_with fail
       refine(HB'.out).mono ?_;rintro e w1 ⟨rfl,hr1,hf1⟩;obtain⟨k1,e1,hg1,hk1,g1,g2⟩:=hr1;have c2:w1.cell? ⟨b,2,none⟩=some (.int .i64 e1):=by rw[zc hg1];rfl
       obtain⟨h1,hl1⟩:=g1 _ rfl;subst h1;have hO:RdAt b s (some l) p w1:=⟨k1,0,hg1,hk1,(fun l h=>by cases h;exact⟨rfl,hl1⟩),(fun h=>nomatch h)⟩
       have HO:=zh hO;clear g1 g2 hg1 hl1 hO;go_wp2_with fail
       go_roundw
       case rel=>exact⟨i+1,_,some l,congrArg (Value.int .u64) HW.out,by go_num,by omega,hacc,HO.out,hfr.trans hf1,by show _=_;rw[HQ.out,show 10 - (i+1)=9 - i by omega];rfl⟩
       case measure=>simp[intOf];omega
      ·exfalso;simp at t1;omega
end
section
open Go
/-- what was read of a text: its bytes, its bounds, its parts -/
def DecV (p:Nat) (l:List UInt8) (v:VT) (q:Nat) (t:List UInt8):Prop:=l=encV v++t∧inV v∧canV v=v∧q=p+psz v
theorem rdItems_dec (rv:Nat→List UInt8→Option (VT × Nat × List UInt8)) (hrv:∀ p l v q t,rv p l=some (v,q,t)→DecV p l v q t) (named:Bool) :
  ∀ (n p:Nat) (l:List UInt8) (ns:List (List UInt8)) (its:List VT) (q:Nat) (t:List UInt8),rdItems rv named n p l=some (ns,its,q,t) →
   l=encL named ns its++t∧its.length=n∧inL its∧canL its=its∧q=p+pszL its∧(named=false→ns=[])
 | 0,p,l,ns,its,q,t,h=>by
  rw[rdItems]at h;simp only[Option.some.injEq,Prod.mk.injEq]at h;obtain⟨rfl,rfl,rfl,rfl⟩:=h;exact⟨by rw[encL];rfl,rfl,by rw[inL];trivial,rfl,by rw[pszL];rfl,fun _=>rfl⟩
 | n+1,p,l,ns,its,q,t,h=>by
  rw[rdItems]at h;split at h
  ·cases h
  rename_i a ha;split at h
  ·cases h
  rename_i b hb;split at h
  ·cases h
  rename_i c hc;obtain⟨a1,a2⟩:=a;obtain⟨b1,b2,b3⟩:=b;obtain⟨c1,c2,c3,c4⟩:=c;dsimp only at hb hc h;obtain⟨e1,e2,e3,e4⟩:=hrv _ _ _ _ _ hb;obtain⟨i1,i2,i3,i4,i5,i6⟩:=rdItems_dec rv hrv named n _ _ _ _ _ _ hc;simp only[Option.some.injEq,Prod.mk.injEq]at h;obtain⟨rfl,rfl,rfl,rfl⟩:=h;refine⟨?_,by simp[i2],by rw[inL];exact⟨e2,i3⟩,by rw[canL,e3,i4],by rw[pszL,i5,e4];omega,fun hn=>by rw[if_neg (by simp[hn])];exact i6 hn⟩;cases named with
  | true =>
   simp only[if_true]at ha ⊢
   obtain⟨s1,s2⟩:=rdStr_dec ha;rw[s1,e1,i1,encL];simp only[if_true,List.headD_cons,List.tail_cons,List.append_assoc]
  | false =>
   simp only[Bool.false_eq_true,if_false,Option.some.injEq,Prod.mk.injEq]at ha ⊢
   obtain⟨_,rfl⟩:=ha;rw[e1,i1,encL,i6 rfl];simp only[Bool.false_eq_true,if_false,List.tail_nil,List.nil_append,List.append_assoc]
theorem u8_ofNat (k:UInt8):UInt8.ofNat (((k.toNat:Nat):Int)).toNat=k:=by simp
theorem rdV_dec:∀ (f p:Nat) (l:List UInt8) (v:VT) (q:Nat) (t:List UInt8),rdV f p l=some (v,q,t)→DecV p l v q t
 | 0,p,l,v,q,t,h=>by rw[rdV]at h;cases h
 | f+1,p,l,v,q,t,h=>by
  by_cases hp:200≤p
  ·rw[rdV.eq_def]at h;dsimp only at h;rw[if_pos hp]at h;cases h
  cases l with
  | nil=>rw[rdV.eq_def]at h;dsimp only at h;rw[if_neg hp]at h;cases h
  | cons k l =>
   rw[rdV_step k l (by omega)]at h;have kk:∀ n:Nat,k.toNat=n→k=UInt8.ofNat n:=fun n hn=>by rw[←hn];simp
   split at h
   ·rename_i h1;have h1:=kk _ h1;subst h1;cases l with
    | nil=>cases h
    | cons c l =>
     rw[rdBool]at h;split at h
     ·cases h
     rename_i r hr;split at hr
     ·rename_i hc;simp only[Option.some.injEq]at hr;subst hr;simp only[Option.some.injEq,Prod.mk.injEq]at h;obtain⟨rfl,rfl,rfl⟩:=h;have hcl:=c.toNat_lt;refine⟨?_,?_,rfl,by rw[psz,pszL]⟩
      ·rw[encV,if_pos rfl,u8_ofNat];rfl
      ·rw[inV];exact⟨by omega,by omega,by omega,by rw[inL];trivial⟩
     ·cases hr
   split at h
   ·rename_i _ h1;have h1:=kk _ h1;subst h1;split at h
    ·cases h
    rename_i r hr;unfold rdInt at hr;split at hr
    ·cases hr
    rename_i r2 hr2;simp only[Option.some.injEq]at hr;subst hr;simp only[Option.some.injEq,Prod.mk.injEq]at h;obtain⟨rfl,rfl,rfl⟩:=h;obtain⟨d1,d2⟩:=rdU_dec (n:=r2.1) (r:=r2.2) hr2;refine⟨?_,?_,rfl,by rw[psz,pszL]⟩
    ·rw[encV,if_neg (by omega),if_pos rfl,zig_zag,List.cons_append,←d1];rfl
    ·rw[inV];exact⟨by omega,zag_in d2,by omega,by rw[inL];trivial⟩
   split at h
   ·rename_i _ _ h1;have h1:=kk _ h1;subst h1;split at h
    ·cases h
    rename_i r hr;unfold rdFlt at hr;split at hr
    ·cases hr
    rename_i hl;split at hr
    ·rename_i hcn;simp only[Option.some.injEq]at hr;subst hr;simp only[Option.some.injEq,Prod.mk.injEq]at h;obtain⟨rfl,rfl,rfl⟩:=h;have h8:(l.take 8).length=8:=by rw[List.length_take];omega
     refine⟨?_,?_,by rw[canV,hcn];rfl,by rw[psz,pszL]⟩
     ·rw[encV,if_neg (by omega),if_neg (by omega),if_pos rfl,hcn,fltE_beN _ h8,List.cons_append,List.take_append_drop];rfl
     ·rw[inV];exact⟨by omega,by omega,beN_lt _ h8,by rw[inL];trivial⟩
    ·cases hr
   split at h
   ·rename_i _ _ _ h1;have h1:=kk _ h1;subst h1;split at h
    ·cases h
    rename_i r hr;simp only[Option.some.injEq,Prod.mk.injEq]at h;obtain⟨rfl,rfl,rfl⟩:=h;obtain⟨d1,d2⟩:=rdStr_dec (s:=r.1) (r:=r.2) hr;refine⟨?_,?_,rfl,by rw[psz,pszL]⟩
    ·rw[encV,if_neg (by omega),if_neg (by omega),if_neg (by omega),if_pos rfl,List.cons_append,←d1];rfl
    ·rw[inV];exact⟨by omega,by omega,by omega,by rw[inL];trivial⟩
   split at h
   ·rename_i n1 n2 n3 n4 h1;split at h
    ·cases h
    rename_i r hr;split at h
    ·cases h
    rename_i hmany;split at h
    ·cases h
    rename_i c hc;obtain⟨c1,c2,c3,c4⟩:=c;simp only[Option.some.injEq,Prod.mk.injEq]at h;obtain⟨rfl,rfl,rfl⟩:=h;obtain⟨d1,d2⟩:=rdU_dec (n:=r.1) (r:=r.2) hr;obtain⟨i1,i2,i3,i4,i5,i6⟩:=rdItems_dec (rdV f) (fun p l v q t h=>rdV_dec f p l v q t h) _ _ _ _ _ _ _ _ hc;have hcl:=k.toNat_lt;have hd:decide (k.toNat=6)=decide (((k.toNat:Nat):Int)=6):=by
     rcases h1 with h1|h1<;>rw[h1]<;>rfl
    refine⟨?_,?_,by rw[canV,i4];rfl,by rw[psz,i5];omega⟩
    ·rw[encV,if_neg (by omega),if_neg (by omega),if_neg (by omega),if_neg (by omega),u8_ofNat,i2,List.cons_append,List.append_assoc,←hd,←i1,←d1]
    ·rw[inV];exact⟨by omega,by omega,by omega,i3⟩
   ·cases h
theorem rdVal_dec {l t:List UInt8} {v:VT} (h:rdVal l=some (v,t)):l=encV v++t∧inV v∧canV v=v∧rightB v=true:=by
 unfold rdVal at h;split at h
 ·cases h
 rename_i r hr;obtain⟨r1,r2,r3⟩:=r;dsimp only at h;split at h
 ·rename_i hR;simp only[Option.some.injEq,Prod.mk.injEq]at h;obtain⟨rfl,rfl⟩:=h;obtain⟨a,b,c,_⟩:=rdV_dec _ _ _ _ _ _ hr;exact⟨a,b,c,hR⟩
 ·cases h
end
section
open Go.RowKit
theorem cbegin_any (s:ByteArray) (b k q D:Nat) (hD:D≤1000) (hq:q≤100000) (w:World) (hb:RdB b s k q w) :
  Calls Tryz.prog 160 #[.pointer (some ⟨b,0,none⟩),.int .i64 (D:Int)] w
   (fun e w'=>if D≤12∧q<200 then e=.returned (.tuple #[])∧RdB b s k (q+1) w'∧Fr [b] w w' else e=gave 5∧Fr [b] w w'):=by
 have c2:=hb.c2;have f2:=hb.fz 2;have HMy:=zh (cmust_yes 5);have HMn:=zh (cmust_no 5);have A1:RdB b s k (q+1) (w.setCell ⟨b,2,none⟩ (.int .i64 ((q:Int)+1))):=hb.put2 (q+1);have A2:=(Fr.refl [b] w).setCell ⟨b,2,none⟩ (by simp) (.int .i64 ((q:Int)+1));have x2:(w.setCell ⟨b,2,none⟩ (.int .i64 ((q:Int)+1))).cell? ⟨b,2,none⟩=some (.int .i64 ((q:Int)+1)):=World.cell?_setCell_same _ _ _ c2;by_cases h1:D≤12
 ·have t1:decide ((D:Int)≤12)=true:=by simp;omega
  by_cases h2:q<200
  ·have t2:decide ((q:Int)+1≤200)=true:=by simp;omega
   simp only[if_pos (show D≤12∧q<200 from⟨h1,h2⟩)];go_in;go_wp2_with fail
   refine(HMy.out _).mono ?_;rintro e w2 ⟨rfl,rfl⟩;go_wp2_with fail
   go_end0;exact⟨rfl,A1,A2⟩
  ·have t2:decide ((q:Int)+1≤200)=false:=by simp;omega
   simp only[if_neg (show ¬ (D≤12∧q<200) by omega)];go_in;go_wp2_with fail
   refine(HMn.out _).mono ?_;rintro e w2 ⟨rfl,rfl⟩;go_wp2_with fail
   exact⟨rfl,rfl,A2⟩
 ·have t1:decide ((D:Int)≤12)=false:=by simp;omega
  simp only[if_neg (show ¬ (D≤12∧q<200) by omega)];go_in;go_wp2_with fail
  refine(HMn.out _).mono ?_;rintro e w2 ⟨rfl,rfl⟩;go_wp2_with fail
  exact⟨rfl,rfl,A2⟩
def most200:Option (Nat × List UInt8)→Option (Nat × List UInt8)
 | none=>none
 | some r=>if 200<r.1 then none else some r
theorem cmany_any (s:ByteArray) (hs:s.size≤100000000) (b k q:Nat) (hk:k≤s.size) (w:World) (hb:RdB b s k q w) :
  Calls Tryz.prog 163 #[.pointer (some ⟨b,0,none⟩)] w (RdPost b s q w (onN (fun n=>.int .i64 (n:Int)) (most200 (rdU (s.data.toList.drop k))))):=by
 have HU:=cuintR_any s hs b k q hk w hb;have HMy:=zh (cmust_yes 5);have HMn:=zh (cmust_no 5);generalize rdU (s.data.toList.drop k)=r at *;cases r with
 | none =>
  have HU:=zh HU;go_in;go_wp2_with fail
  refine(HU.out).mono ?_;rintro e w1 ⟨⟨x,hx,rfl⟩,hf1⟩;go_wp2_with fail
  exact⟨rfl,⟨x,hx,rfl⟩,hf1⟩
 | some r =>
  obtain⟨n,l⟩:=r;have HU:=zh HU;by_cases hn:200<n
  ·have t1:decide ((n:Int)≤200)=false:=by simp;omega
   have HP:=zh (show most200 (some (n,l))=none from if_pos hn);clear hn;go_in;go_wp2_with fail
   refine(HU.out).mono ?_;rintro e w1 ⟨rfl,hr1,hf1⟩;dsimp only;go_wp2_with fail
   refine(HMn.out _).mono ?_;rintro e w2 ⟨rfl,rfl⟩;go_wp2_with fail
   rw[HP.out];exact⟨rfl,⟨5,by decide,rfl⟩,hf1⟩
  ·have t1:decide ((n:Int)≤200)=true:=by simp;omega
   have HP:=zh (show most200 (some (n,l))=some (n,l) from if_neg hn);have hw:IntKind.i64.wrap (n:Int)=(n:Int):=by rw[IntKind.wrap_i64];omega
   go_in;go_wp2_with fail
   refine(HU.out).mono ?_;rintro e w1 ⟨rfl,hr1,hf1⟩;dsimp only;go_wp2_with fail
   refine(HMy.out _).mono ?_;rintro e w2 ⟨rfl,rfl⟩;go_wp2_with fail
   go_ret;rw[HP.out];exact⟨rfl,hr1,hf1⟩
theorem xor_ones_i64 (x:Nat) (h:x<9223372036854775808):bits .xor .i64 (x:Int) (-1) = -1 - (x:Int):=by
 have h1:(BitVec.ofInt 64 (x:Int)).toNat=x:=by
  rw[BitVec.ofInt_natCast,BitVec.toNat_ofNat];exact Nat.mod_eq_of_lt (by omega)
 show IntKind.i64.wrap ((BitVec.ofInt 64 (x:Int) ^^^ BitVec.ofInt 64 (-1)).toNat:Int)=_;rw[show BitVec.ofInt 64 (-1)=BitVec.allOnes 64 from by decide,BitVec.xor_allOnes,BitVec.toNat_not,h1,IntKind.wrap_i64];omega
theorem xor_zero_i64 (x:Nat) (h:x<9223372036854775808):bits .xor .i64 (x:Int) 0=(x:Int):=by
 have h1:(BitVec.ofInt 64 (x:Int)).toNat=x:=by
  rw[BitVec.ofInt_natCast,BitVec.toNat_ofNat];exact Nat.mod_eq_of_lt (by omega)
 show IntKind.i64.wrap ((BitVec.ofInt 64 (x:Int) ^^^ BitVec.ofInt 64 0).toNat:Int)=_;rw[show BitVec.ofInt 64 0=0#64 from by decide,BitVec.xor_zero,h1,IntKind.wrap_i64];omega
theorem and_one64 (n:Nat) (h:n<18446744073709551616):bits .and .u64 (n:Int) 1=((n % 2:Nat):Int):=by
 have h1:(BitVec.ofInt 64 (n:Int)).toNat=n:=by
  rw[BitVec.ofInt_natCast,BitVec.toNat_ofNat];exact Nat.mod_eq_of_lt (by omega)
 show IntKind.u64.wrap ((BitVec.ofInt 64 (n:Int) &&& BitVec.ofInt 64 1).toNat:Int)=_;rw[BitVec.toNat_and,h1,show(BitVec.ofInt 64 1).toNat=1 from by decide,Nat.and_one_is_mod,IntKind.wrap_u64];omega
theorem zag_bits {n:Nat} (h:n<18446744073709551616) :
  bits .xor .i64 ((n:Int) / 2) (-((n:Int) % 2))=zag n:=by
 rw[show(n:Int) / 2=((n / 2:Nat):Int) by omega,show(n:Int) % 2=((n % 2:Nat):Int) by omega];unfold zag;by_cases h2:n % 2=1
 ·rw[if_pos h2,h2];exact xor_ones_i64 _ (by omega)
 ·rw[if_neg h2,show n % 2=0 by omega];exact xor_zero_i64 _ (by omega)
def onZ (f:Int→Value):Option (Int × List UInt8)→Option (Value × List UInt8)
 | none=>none
 | some r=>some (f r.1,r.2)
theorem cintR_any (s:ByteArray) (hs:s.size≤100000000) (b k q:Nat) (hk:k≤s.size) (w:World) (hb:RdB b s k q w) :
  Calls Tryz.prog 161 #[.pointer (some ⟨b,0,none⟩)] w (RdPost b s q w (onZ (fun n=>.int .i64 n) (rdInt (s.data.toList.drop k)))):=by
 have HU:=cuintR_any s hs b k q hk w hb;have hdec:=fun n r=>@rdU_dec (s.data.toList.drop k) n r
 unfold rdInt;generalize rdU (s.data.toList.drop k)=r at *;cases r with
 | none =>
  have HU:=zh HU;go_in;go_wp2_with fail
  refine(HU.out).mono ?_;rintro e w1 ⟨⟨x,hx,rfl⟩,hf1⟩;go_wp2_with fail
  exact⟨rfl,⟨x,hx,rfl⟩,hf1⟩
 | some r =>
  obtain⟨n,l⟩:=r;have HU:=zh HU;have hlt:=(hdec n l rfl).2;clear hdec;have HZ:=zh (zag_bits hlt);have a1:bits .and .u64 (n:Int) 1=(n:Int) % 2:=by rw[and_one64 n hlt];omega
  have a2:IntKind.i64.wrap ((n:Int) / 2)=(n:Int) / 2:=by rw[IntKind.wrap_i64];omega
  have a3:IntKind.i64.wrap ((n:Int) % 2)=(n:Int) % 2:=by rw[IntKind.wrap_i64];omega
  have a4:IntKind.i64.wrap (-((n:Int) % 2)) = -((n:Int) % 2):=by rw[IntKind.wrap_i64];omega
  go_in;go_wp2_with fail
  refine(HU.out).mono ?_;rintro e w1 ⟨rfl,hr1,hf1⟩;dsimp only;go_wp2_with fail
  go_ret;refine⟨ret_val (congrArg (Value.int .i64) ?_),hr1,hf1⟩;exact HZ.out
end
section
open Go.RowKit
theorem suf_of {L a r:List UInt8} {k:Nat} (h:L.drop k=a++r) (hk:k≤L.length):r=L.drop (L.length - r.length)∧k+a.length+r.length=L.length:=by
 have hl:=congrArg List.length h;rw[List.length_drop,List.length_append]at hl;refine⟨?_,by omega⟩;have h2:=congrArg (List.drop a.length) h;rw[List.drop_drop,List.drop_left' rfl]at h2;rw[show L.length - r.length=k+a.length by omega,h2]
theorem ext_bytes (s:ByteArray) (a n:Nat) (t:List UInt8) (ht:t=s.data.toList.drop a):s.extract a (a+n)=⟨(t.take n).toArray⟩:=by
 apply ByteArray.ext
 apply Array.ext'
 show _=(t.take n).toArray.toList;simp only[ByteArray.data_extract,Array.toList_extract,List.extract_eq_take_drop];rw[←ht];congr 1;omega
def onS (f:List UInt8→Value):Option (List UInt8 × List UInt8)→Option (Value × List UInt8)
 | none=>none
 | some r=>some (f r.1,r.2)
theorem cstrR_any (s:ByteArray) (hs:s.size≤100000000) (b k q m:Nat) (hm:m≤1000) (hk:k≤s.size) (w:World) (hb:RdB b s k q w) :
  Calls Tryz.prog 138 #[.pointer (some ⟨b,0,none⟩),.int .i64 (m:Int)] w (RdPost b s q w (onS (fun t=>.string ⟨t.toArray⟩) (rdStr m (s.data.toList.drop k)))):=by
 have HU:=cuintR_any s hs b k q hk w hb;have hdec:=fun n r=>@rdU_dec (s.data.toList.drop k) n r
 have hL:s.data.toList.length=s.size:=by simp
 have hsuf:=fun(a r:List UInt8) (h:s.data.toList.drop k=a++r)=>suf_of h (by rw[hL];exact hk)
 have HMy:=zh (cmust_yes 5);have HMn:=zh (cmust_no 5);have HNy:=zh (cmust_yes 14);have HNn:=zh (cmust_no 14);have t0:decide ((0:Int)≤(m:Int))=true:=by simp
 have wm:IntKind.u64.wrap (m:Int)=(m:Int):=by rw[IntKind.wrap_u64];omega
 unfold rdStr;generalize rdU (s.data.toList.drop k)=r at *;cases r with
 | none =>
  have HU:=zh HU;clear hdec hsuf hL;go_in;go_wp2_with fail
  refine(HU.out).mono ?_;rintro e w1 ⟨⟨x,hx,rfl⟩,hf1⟩;go_wp2_with fail
  exact⟨rfl,⟨x,hx,rfl⟩,hf1⟩
 | some r =>
  obtain⟨n,l⟩:=r;have HU:=zh HU;obtain⟨hd1,hd2⟩:=hdec n l rfl;obtain⟨hs1,hs2⟩:=hsuf _ _ hd1;rw[hL]at hs1 hs2;clear hdec hsuf hL hd1;by_cases hmn:m<n
  ·have t1:decide ((n:Int)≤(m:Int))=false:=by simp;omega
   have t1':decide (n≤m)=false:=by simp;omega
   have HP:=zh (show(if m<n∨l.length<n then none else some (l.take n,l.drop n))=(none:Option (List UInt8 × List UInt8)) from if_pos (.inl hmn))
   clear hmn hs1 hs2;dsimp only;rw[HP.out];go_in;go_wp2_with fail
   refine(HU.out).mono ?_;rintro e w1 ⟨rfl,hr1,hf1⟩;dsimp only;go_wp2_with fail
   refine(HMn.out _).mono ?_;rintro e w2 ⟨rfl,rfl⟩;go_wp2_with fail
   exact⟨rfl,⟨5,by decide,rfl⟩,hf1⟩
  ·have t1:decide ((n:Int)≤(m:Int))=true:=by simp;omega
   have t1':decide (n≤m)=true:=by simp;omega
   have t1'':n≤m:=by omega
   have wn:IntKind.i64.wrap (n:Int)=(n:Int):=by rw[IntKind.wrap_i64];omega
   by_cases hln:l.length<n
   ·have HP:=zh (show(if m<n∨l.length<n then none else some (l.take n,l.drop n))=(none:Option (List UInt8 × List UInt8)) from if_pos (.inr hln))
    generalize hk2:s.size - l.length=k2 at *;have w3:IntKind.i64.wrap ((s.size:Int) - (k2:Int))=(s.size:Int) - (k2:Int):=by rw[IntKind.wrap_i64];omega
    have t3:decide ((n:Int)≤(s.size:Int) - (k2:Int))=false:=by simp;omega
    have HK2:=zh hk2;clear hmn hs1 hs2 hk2 hln;dsimp only;rw[HP.out];go_in;go_wp2_with fail
    refine(HU.out).mono ?_;rintro e w1 ⟨rfl,hr1,hf1⟩;dsimp only at hr1 ⊢
    rw[HK2.out]at hr1;go_wp2_with fail
    refine(HMy.out _).mono ?_;rintro e w2 ⟨rfl,rfl⟩;have c0:=hr1.c0;have c1:=hr1.c1;go_wp2_with fail
    go_region_with ((go_at_call 125;(with_reducible refine(HNn.out _).mono ?_);rintro e w2 ⟨rfl,rfl⟩;refine shut_way (w:=w1) ⟨rfl,⟨⟨14,by decide,rfl⟩,hf1.drew⟩⟩ ?_))
    all_goals trivial
   ·have HP:=zh (show(if m<n∨l.length<n then none else some (l.take n,l.drop n))=(some (l.take n,l.drop n):Option (List UInt8 × List UInt8)) from if_neg (by omega))
    generalize hk2:s.size - l.length=k2 at *;have w3:IntKind.i64.wrap ((s.size:Int) - (k2:Int))=(s.size:Int) - (k2:Int):=by rw[IntKind.wrap_i64];omega
    have t3:decide ((n:Int)≤(s.size:Int) - (k2:Int))=true:=by simp;omega
    have HX:=zh (ext_bytes s k2 n l hs1);have HE:=zh (show s.size - (l.drop n).length=k2+n from by rw[List.length_drop];omega);have w4:IntKind.i64.wrap ((k2:Int)+(n:Int))=(k2:Int)+(n:Int):=by rw[IntKind.wrap_i64];omega
    have w5:IntKind.i64.wrap ((k2:Int)+(n:Int) - (n:Int))=(k2:Int):=by rw[IntKind.wrap_i64];omega
    have b1:(0:Int)≤(k2:Int):=by omega
    have b2:(k2:Int)≤(k2:Int)+(n:Int):=by omega
    have b3:(k2:Int)+(n:Int)≤(s.size:Int):=by omega
    have b4:k2+n≤s.size:=by omega
    have HK2:=zh hk2;clear hmn hs1 hs2 hk2 hln;dsimp only;rw[HP.out];go_in;go_wp2_with fail
    refine(HU.out).mono ?_;rintro e w1 ⟨rfl,hr1,hf1⟩;dsimp only at hr1 ⊢
    rw[HK2.out]at hr1;go_wp2_with fail
    refine(HMy.out _).mono ?_;rintro e w2 ⟨rfl,rfl⟩;have c0:=hr1.c0;have c1:=hr1.c1;have f1:=hr1.fz 1;go_wp2_with fail
    go_quiet (refine Calls.quiet_of_same ((HNy.out _).mono fun _ _ h=>⟨h.1,h.2.symm⟩))
    go_wp2_with fail
    have A1:RdB b s (k2+n) q ((w1.drewN nq).setCell ⟨b,1,none⟩ (.int .i64 ((k2:Int)+(n:Int)))):=(hr1.drewN nq).put1 (k2+n);have A2:=(hf1.drewN nq).setCell ⟨b,1,none⟩ (by simp) (.int .i64 ((k2:Int)+(n:Int)));clear c0 c1 f1;generalize (w1.drewN nq).setCell ⟨b,1,none⟩ (.int .i64 ((k2:Int)+(n:Int)))=W2 at *;have c0:=A1.c0;have c1:W2.cell? ⟨b,1,none⟩=some (.int .i64 ((k2:Int)+(n:Int))):=A1.c1;go_quiet (fail)
    go_wp2_with fail
    go_ret;refine⟨ret_val (congrArg Value.string ?_),?_,A2.drewN _⟩
    ·exact HX.out
    ·dsimp only;rw[HE.out];exact A1.drewN _
end
section
open Go.RowKit
theorem rdU_lt (st:Option (List UInt8)):(outR 0 (st.bind rdU)).1<18446744073709551616:=by
 cases st with
 | none=>show 0<_;omega
 | some l =>
  show(outR 0 (rdU l)).1<_;cases h:rdU l with
  | none=>show 0<_;omega
  | some r=>exact(rdU_dec (n:=r.1) (r:=r.2) h).2
theorem rdInt_of (st:Option (List UInt8)):outR 0 (st.bind rdInt)=(zag (outR 0 (st.bind rdU)).1,(outR 0 (st.bind rdU)).2):=by
 cases st with
 | none=>rfl
 | some l =>
  show outR 0 (rdInt l)=(zag (outR 0 (rdU l)).1,(outR 0 (rdU l)).2);unfold rdInt;cases rdU l<;>rfl
/-- how many items -/
def rdMany (l:List UInt8):Option (Nat × List UInt8):=match rdU l with
 | none=>none
 | some r=>if 200<r.1 then none else some r
theorem rdMany_of (st:Option (List UInt8)):outR 0 (st.bind rdMany)=if 200<(outR 0 (st.bind rdU)).1 then(0,none) else outR 0 (st.bind rdU):=by
 cases st with
 | none=>rfl
 | some l =>
  show outR 0 (rdMany l)=if 200<(outR 0 (rdU l)).1 then(0,none) else outR 0 (rdU l)
  unfold rdMany;cases rdU l with
  | none=>rfl
  | some r =>
   show outR 0 (if 200<r.1 then none else some r)=if 200<r.1 then(0,none) else(r.1,some r.2)
   split<;>rfl
theorem rintR_any (b p:Nat) (s:ByteArray) (hs:s.size≤1000000) (st:Option (List UInt8)) (w:World) (h:RdAt b s st p w) :
  Calls Tryz.prog 165 #[.pointer (some ⟨b,0,none⟩)] w (RdCall b s p w ((fun x=>(.int .i64 x.1,x.2)) (outR 0 (st.bind rdInt)))):=by
 have HU:=zh (ruint_any b p s hs st w h);have hlt:=rdU_lt st;have hq:=rdInt_of st;generalize outR 0 (st.bind rdU)=q at *;generalize outR 0 (st.bind rdInt)=Q at *;obtain⟨n,st2⟩:=q;dsimp only at hlt HU;have hz:=zag.eq_def n;have HQ:=zh hq;clear hq h;obtain⟨k,hk|hk⟩:∃ k,n=2*k∨n=2*k+1:=⟨n / 2,by omega⟩
 ·rw[if_neg (by omega),show n / 2=k by omega]at hz;have HZ:=zh hz;have t1:(n:Int) % 2=0:=by omega
  have t3:(n:Int) / 2=(k:Int):=by omega
  have w2:IntKind.i64.wrap (k:Int)=(k:Int):=by rw[IntKind.wrap_i64];omega
  have b1:(0:Int)≤(n:Int):=by omega
  clear hz hk;go_in;go_wp2_with fail
  refine(HU.out).mono ?_;rintro e w1 ⟨rfl,hr1,hf1⟩;go_wp2_with fail
  go_ret;exact⟨ret_val (by rw[HQ.out];exact congrArg (Value.int .i64) HZ.out.symm),by rw[HQ.out];exact hr1,hf1⟩
 ·rw[if_pos (by omega),show n / 2=k by omega]at hz;have HZ:=zh hz;have t1:(n:Int) % 2=1:=by omega
  have t3:(n:Int) / 2=(k:Int):=by omega
  have w2:IntKind.i64.wrap (k:Int)=(k:Int):=by rw[IntKind.wrap_i64];omega
  have w3:IntKind.i64.wrap (-1 - (k:Int)) = -1 - (k:Int):=by rw[IntKind.wrap_i64];omega
  have b1:(0:Int)≤(n:Int):=by omega
  clear hz hk;go_in;go_wp2_with fail
  refine(HU.out).mono ?_;rintro e w1 ⟨rfl,hr1,hf1⟩;go_wp2_with fail
  go_ret;exact⟨ret_val (by rw[HQ.out];exact congrArg (Value.int .i64) HZ.out.symm),by rw[HQ.out];exact hr1,hf1⟩
theorem rmanyR_any (b p:Nat) (s:ByteArray) (hs:s.size≤1000000) (st:Option (List UInt8)) (w:World) (h:RdAt b s st p w) :
  Calls Tryz.prog 167 #[.pointer (some ⟨b,0,none⟩)] w (RdCall b s p w ((fun x=>(.int .i64 ((x.1:Nat):Int),x.2)) (outR 0 (st.bind rdMany)))):=by
 have HU:=zh (ruint_any b p s hs st w h);have HF:=zh (fun st (w:World) (h:RdAt b s st p w)=>rfail_any 5 (by decide) b p s st w h);have hq:=rdMany_of st;generalize outR 0 (st.bind rdU)=q at *;generalize outR 0 (st.bind rdMany)=Q at *;obtain⟨n,st2⟩:=q;dsimp only at hq HU;clear h;by_cases hn:200<n
 ·rw[if_pos hn]at hq;have HQ:=zh hq;have t1:decide ((200:Int)<(n:Int))=true:=by simp;omega
  clear hq;go_in;go_wp2_with fail
  refine(HU.out).mono ?_;rintro e w1 ⟨rfl,hr1,hf1⟩;go_wp2_with fail
  refine(HF.out _ _ hr1).mono ?_;rintro e w2 ⟨rfl,hr2,hf2⟩;go_wp2_with fail
  go_ret;exact⟨ret_val (by rw[HQ.out];rfl),by rw[HQ.out];exact hr2,hf1.trans hf2⟩
 ·rw[if_neg hn]at hq;have HQ:=zh hq;have t1:decide ((200:Int)<(n:Int))=false:=by simp;omega
  have w2:IntKind.i64.wrap (n:Int)=(n:Int):=by rw[IntKind.wrap_i64];omega
  clear hq;go_in;go_wp2_with fail
  refine(HU.out).mono ?_;rintro e w1 ⟨rfl,hr1,hf1⟩;go_wp2_with fail
  go_ret;exact⟨ret_val (by rw[HQ.out];rfl),by rw[HQ.out];exact hr1,hf1⟩
theorem rdStr_of (m:Nat) (st:Option (List UInt8)):outR [] (st.bind (rdStr m))=(match (outR 0 (st.bind rdU)).2 with
  | none=>([],none)
  | some l=>if m<(outR 0 (st.bind rdU)).1∨l.length<(outR 0 (st.bind rdU)).1 then([],none) else(l.take (outR 0 (st.bind rdU)).1,some (l.drop (outR 0 (st.bind rdU)).1))):=by
 cases st with
 | none=>rfl
 | some l =>
  show outR [] (rdStr m l)=match (outR 0 (rdU l)).2 with
  | none=>([],none)
  | some l1=>if m<(outR 0 (rdU l)).1∨l1.length<(outR 0 (rdU l)).1 then([],none) else(l1.take (outR 0 (rdU l)).1,some (l1.drop (outR 0 (rdU l)).1))
  unfold rdStr;cases rdU l with
  | none=>rfl
  | some r =>
   show outR [] (if m<r.1∨r.2.length<r.1 then none else some (r.2.take r.1,r.2.drop r.1))=if m<r.1∨r.2.length<r.1 then([],none) else(r.2.take r.1,some (r.2.drop r.1))
   split<;>rfl
theorem rstrR_any (m:Nat) (hm:m≤1000) (b p:Nat) (s:ByteArray) (hs:s.size≤1000000) (st:Option (List UInt8)) (w:World) (h:RdAt b s st p w) :
  Calls Tryz.prog 166 #[.pointer (some ⟨b,0,none⟩),.int .i64 (m:Int)] w (RdCall b s p w ((fun x=>(.string ⟨x.1.toArray⟩,x.2)) (outR [] (st.bind (rdStr m))))):=by
 have HU:=zh (ruint_any b p s hs st w h);have HF5:=zh (fun st (w:World) (h:RdAt b s st p w)=>rfail_any 5 (by decide) b p s st w h);have HF14:=zh (fun st (w:World) (h:RdAt b s st p w)=>rfail_any 14 (by decide) b p s st w h);have hq:=rdStr_of m st;have hlt:=rdU_lt st;have hL:s.data.toList.length=s.size:=by simp
 generalize outR 0 (st.bind rdU)=q at *;generalize outR [] (st.bind (rdStr m))=Q at *;obtain⟨n,st2⟩:=q;dsimp only at hlt HU;clear h;have m0:decide ((m:Int)<0)=false:=by simp
 have wm:IntKind.u64.wrap (m:Int)=(m:Int):=by rw[IntKind.wrap_u64];omega
 cases st2 with
 | none =>
  have HQ:Hid (Q=([],none)):=hq;clear hq;go_in;go_wp2_with fail
  refine(HU.out).mono ?_;rintro e w1 ⟨rfl,hr1,hf1⟩;obtain⟨k1,e1,hg1,hk1,g1,g2⟩:=hr1;have c0:w1.cell? ⟨b,0,none⟩=some (.string s):=by rw[zc hg1];rfl
  have c1:w1.cell? ⟨b,1,none⟩=some (.int .i64 (k1:Int)):=by rw[zc hg1];rfl
  have c2:w1.cell? ⟨b,2,none⟩=some (.int .i64 e1):=by rw[zc hg1];rfl
  have t0:(e1 != 0)=true:=by rw[bne_iff_ne];exact g2 rfl
  have hO:RdAt b s none p w1:=⟨k1,e1,hg1,hk1,(fun _ h=>nomatch h),g2⟩;clear g1 g2 hg1;go_wp2_with fail
  go_ret;exact⟨ret_val (by rw[HQ.out];rfl),by rw[HQ.out];exact hO,hf1⟩
 | some l =>
  replace hq:Q=if m<n∨l.length<n then([],none) else(l.take n,some (l.drop n)):=hq
  by_cases hmn:m<n
  ·rw[if_pos (.inl hmn)]at hq;have t1:decide (m<n)=true:=decide_eq_true hmn;have HQ:=zh hq;clear hq;go_in;go_wp2_with fail
   refine(HU.out).mono ?_;rintro e w1 ⟨rfl,hr1,hf1⟩;obtain⟨k1,e1,hg1,hk1,g1,g2⟩:=hr1;have c0:w1.cell? ⟨b,0,none⟩=some (.string s):=by rw[zc hg1];rfl
   have c1:w1.cell? ⟨b,1,none⟩=some (.int .i64 (k1:Int)):=by rw[zc hg1];rfl
   have c2:w1.cell? ⟨b,2,none⟩=some (.int .i64 e1):=by rw[zc hg1];rfl
   obtain⟨h1,hl1⟩:=g1 _ rfl;subst h1;have hO:RdAt b s (some l) p w1:=⟨k1,0,hg1,hk1,(fun l h=>by cases h;exact⟨rfl,hl1⟩),(fun h=>nomatch h)⟩
   have HO:=zh hO;clear g1 g2 hg1 hl1 hO;go_wp2_with fail
   refine(HF5.out _ _ HO.out).mono ?_;rintro e w2 ⟨rfl,hr2,hf2⟩;go_wp2_with fail
   go_ret;exact⟨ret_val (by rw[HQ.out];rfl),by rw[HQ.out];exact hr2,hf1.trans hf2⟩
  ·have t1:decide (m<n)=false:=decide_eq_false hmn;have wn:IntKind.i64.wrap (n:Int)=(n:Int):=by rw[IntKind.wrap_i64];omega
   by_cases hln:l.length<n
   ·rw[if_pos (.inr hln)]at hq;have HQ:=zh hq;clear hq;go_in;go_wp2_with fail
    refine(HU.out).mono ?_;rintro e w1 ⟨rfl,hr1,hf1⟩;obtain⟨k1,e1,hg1,hk1,g1,g2⟩:=hr1;have c0:w1.cell? ⟨b,0,none⟩=some (.string s):=by rw[zc hg1];rfl
    have c1:w1.cell? ⟨b,1,none⟩=some (.int .i64 (k1:Int)):=by rw[zc hg1];rfl
    have c2:w1.cell? ⟨b,2,none⟩=some (.int .i64 e1):=by rw[zc hg1];rfl
    obtain⟨h1,hl1⟩:=g1 _ rfl;subst h1;have hO:RdAt b s (some l) p w1:=⟨k1,0,hg1,hk1,(fun l h=>by cases h;exact⟨rfl,hl1⟩),(fun h=>nomatch h)⟩
    have HO:=zh hO;have hll:l.length=s.size - k1:=by rw[hl1,List.length_drop,hL]
    obtain⟨r1,hr1'⟩:∃ r1:Nat,(s.size:Int) - (k1:Int)=(r1:Int):=⟨s.size - k1,by omega⟩;have w3:IntKind.i64.wrap (r1:Int)=(r1:Int):=by rw[IntKind.wrap_i64];omega
    have w4:IntKind.u64.wrap (r1:Int)=(r1:Int):=by rw[IntKind.wrap_u64];omega
    have t3:decide (r1<n)=true:=by simp;omega
    clear g1 g2 hg1 hl1 hO hll hln;go_wp2_with fail
    go_quiet (fail)
    go_wp2_with fail
    refine(HF14.out _ _ (HO.out.drewN _)).mono ?_;rintro e w2 ⟨rfl,hr2,hf2⟩;go_wp2_with fail
    go_ret;exact⟨ret_val (by rw[HQ.out];rfl),by rw[HQ.out];exact hr2,(hf1.drewN _).trans hf2⟩
   ·rw[if_neg (show ¬ (m<n∨l.length<n) by omega)]at hq;have HQ:=zh hq;clear hq;go_in;go_wp2_with fail
    refine(HU.out).mono ?_;rintro e w1 ⟨rfl,hr1,hf1⟩;obtain⟨k1,e1,hg1,hk1,g1,g2⟩:=hr1;have c0:w1.cell? ⟨b,0,none⟩=some (.string s):=by rw[zc hg1];rfl
    have c1:w1.cell? ⟨b,1,none⟩=some (.int .i64 (k1:Int)):=by rw[zc hg1];rfl
    have c2:w1.cell? ⟨b,2,none⟩=some (.int .i64 e1):=by rw[zc hg1];rfl
    obtain⟨h1,hl1⟩:=g1 _ rfl;subst h1;have z1:w1.frozen? ⟨b,1,none⟩=false:=Lib.frozen_of_heap hg1 1;have hll:l.length=s.size - k1:=by rw[hl1,List.length_drop,hL]
    obtain⟨r1,hr1'⟩:∃ r1:Nat,(s.size:Int) - (k1:Int)=(r1:Int):=⟨s.size - k1,by omega⟩;have w3:IntKind.i64.wrap (r1:Int)=(r1:Int):=by rw[IntKind.wrap_i64];omega
    have w4:IntKind.u64.wrap (r1:Int)=(r1:Int):=by rw[IntKind.wrap_u64];omega
    have t3:decide (r1<n)=false:=by simp;omega
    have HX:=zh (ext_bytes s k1 n l hl1);have w5:IntKind.i64.wrap ((k1:Int)+(n:Int))=(k1:Int)+(n:Int):=by rw[IntKind.wrap_i64];omega
    have w6:IntKind.i64.wrap ((k1:Int)+(n:Int) - (n:Int))=(k1:Int):=by rw[IntKind.wrap_i64];omega
    have b1:(0:Int)≤(k1:Int):=by omega
    have b2:(k1:Int)≤(k1:Int)+(n:Int):=by omega
    have b3:(k1:Int)+(n:Int)≤(s.size:Int):=by omega
    have b4:k1+n≤s.size:=by omega
    have HD:=zh (show l.drop n=s.data.toList.drop (k1+n) from by rw[hl1,List.drop_drop]);have HG:=zh hg1;clear g1 g2 hg1 hl1 hll hln;go_wp2_with fail
    go_quiet (fail)
    go_wp2_with fail
    have hg2:((w1.drewN nq).setCell ⟨b,1,none⟩ (.int .i64 ((k1:Int)+(n:Int)))).heap[b]?=some (.cells #[.string s,.int .i64 ((k1:Int)+(n:Int)),.int .i64 0,.int .i64 (p:Int)] 77 (0,0)):=heap_setN (show(w1.drewN nq).heap[b]?=_ from HG.out) 1 _;have A2:=(hf1.drewN nq).setCell ⟨b,1,none⟩ (by simp) (.int .i64 ((k1:Int)+(n:Int)));clear c0 c1 c2 z1;generalize (w1.drewN nq).setCell ⟨b,1,none⟩ (.int .i64 ((k1:Int)+(n:Int)))=W2 at *;have A1:RdAt b s (some (l.drop n)) p W2:=⟨k1+n,0,hg2,b4,(fun l h=>by cases h;exact⟨rfl,HD.out⟩),(fun h=>nomatch h)⟩
    obtain⟨c0,c1,-⟩:=cells4 hg2;clear hg2;have A1:=zh A1;go_quiet (fail)
    go_wp2_with fail
    go_ret;refine⟨ret_val ?_,by rw[HQ.out];exact A1.out.drewN _,A2.drewN _⟩;rw[HQ.out];exact congrArg Value.string HX.out
/-- a part begun: is there room for it? -/
def begR (deep p:Nat) (st:Option (List UInt8)):Option (List UInt8):=if 12<deep∨200<p+1 then none else st
theorem rbegin_any (deep:Nat) (b p:Nat) (hp:p≤100000) (s:ByteArray) (st:Option (List UInt8)) (w:World) (h:RdAt b s st p w) :
  Calls Tryz.prog 164 #[.pointer (some ⟨b,0,none⟩),.int .i64 (deep:Int)] w fun e w'=>e=.returned (.tuple #[])∧RdAt b s (begR deep p st) (p+1) w'∧Fr [b] w w':=by
 have HF:=zh (fun st (w:World) (h:RdAt b s st (p+1) w)=>rfail_any 5 (by decide) b (p+1) s st w h);obtain⟨k1,e1,hg1,hk1,g1,g2⟩:=h;have c3:w.cell? ⟨b,3,none⟩=some (.int .i64 (p:Int)):=by rw[zc hg1];rfl
 have z3:w.frozen? ⟨b,3,none⟩=false:=Lib.frozen_of_heap hg1 3;have hg2:(w.setCell ⟨b,3,none⟩ (.int .i64 ((p:Int)+1))).heap[b]?=some (.cells #[.string s,.int .i64 (k1:Int),.int .i64 e1,.int .i64 ((p:Int)+1)] 77 (0,0)):=heap_setN hg1 3 _;have hO:RdAt b s st (p+1) (w.setCell ⟨b,3,none⟩ (.int .i64 ((p:Int)+1))):=⟨k1,e1,hg2,hk1,g1,g2⟩;have hF:=(Fr.refl [b] w).setCell ⟨b,3,none⟩ (by simp) (.int .i64 ((p:Int)+1));have c3':(w.setCell ⟨b,3,none⟩ (.int .i64 ((p:Int)+1))).cell? ⟨b,3,none⟩=some (.int .i64 ((p:Int)+1)):=by rw[zc hg2];rfl
 have hb:=begR.eq_def deep p st;have HO:=zh hO;clear g1 g2 hg1 hg2 hO;by_cases hd:12<deep
 ·have t1:decide ((12:Int)<(deep:Int))=true:=by simp;omega
  rw[if_pos (.inl hd)]at hb;have HB:=zh hb;clear hb;go_in;go_wp2_with fail
  refine(HF.out _ _ HO.out).mono ?_;rintro e w2 ⟨rfl,hr2,hf2⟩;go_wp2_with fail
  go_end0;exact⟨rfl,by rw[HB.out];exact hr2,hF.trans hf2⟩
 ·have t1:decide ((12:Int)<(deep:Int))=false:=by simp;omega
  by_cases hp2:200<p+1
  ·have t2:decide ((200:Int)<(p:Int)+1)=true:=by simp;omega
   rw[if_pos (.inr hp2)]at hb;have HB:=zh hb;clear hb;go_in;go_wp2_with fail
   refine(HF.out _ _ HO.out).mono ?_;rintro e w2 ⟨rfl,hr2,hf2⟩;go_wp2_with fail
   go_end0;exact⟨rfl,by rw[HB.out];exact hr2,hF.trans hf2⟩
  ·have t2:decide ((200:Int)<(p:Int)+1)=false:=by simp;omega
   rw[if_neg (by omega)]at hb;have HB:=zh hb;clear hb;go_in;go_wp2_with fail
   go_end0;exact⟨rfl,by rw[HB.out];exact HO.out,hF⟩
end
section
open Go.RowKit
theorem beN_take {l:List UInt8} {i:Nat} (h:i<l.length):beN (l.take (i+1))=beN (l.take i)*256+(l.getD i 0).toNat:=by
 rw[show l.getD i 0=l[i] by simp[List.getD,h],List.take_add_one,List.getElem?_eq_getElem h];exact beN_snoc _ _
theorem beN_lt8 {l:List UInt8}:∀ {i:Nat},i≤l.length→i≤7→beN (l.take i)<72057594037927936:=by
 have h:∀ i,i≤l.length→beN (l.take i)<256 ^ i:=by
  intro i;induction i with
  | zero=>intro _;rw[List.take_zero];decide
  | succ i ih =>
   intro hi;have:=ih (by omega);have hc:=(l.getD i 0).toNat_lt;rw[beN_take hi,Nat.pow_succ];omega
 intro i hi h7;exact Nat.lt_of_lt_of_le (h i hi) (Nat.pow_le_pow_right (by omega:0<256) h7)
theorem or_256 {a c:Nat} (ha:a<72057594037927936) (hc:c<256):bits .or .u64 ((a:Int)*256) (c:Int)=(a:Int)*256+(c:Int):=by
 rw[show(a:Int)*256=((a*256:Nat):Int) by omega,bits_or_u64_nat (a*256) c (by omega) (by omega)];have h:=Nat.shiftLeft_add_eq_or_of_lt (i:=8) (b:=c) (by simpa using hc) a;rw[Nat.shiftLeft_eq]at h;rw[←h];omega
theorem rdFlt_short {l:List UInt8} (h:l.length<8):rdFlt l=none:=by unfold rdFlt;rw[if_pos h]
theorem rdFlt_long {l:List UInt8} (h:8≤l.length):rdFlt l=if canon (beN (l.take 8))=beN (l.take 8) then some (beN (l.take 8),l.drop 8) else none:=by unfold rdFlt;rw[if_neg (by omega)]
theorem cfltR_any (s:ByteArray) (hs:s.size≤100000000) (b k q:Nat) (hk:k≤s.size) (w:World) (hb:RdB b s k q w) :
  Calls Tryz.prog 162 #[.pointer (some ⟨b,0,none⟩)] w (RdPost b s q w (onN (fun n=>.float .f64 n) (rdFlt (s.data.toList.drop k)))):=by
 have hL:(s.data.toList.drop k).length=s.size - k:=by simp
 have hget:∀ i (h:k+i<s.size),(s[k+i]'h)=(s.data.toList.drop k).getD i 0:=fun i h=>by
  have h':k+i<s.data.size:=h;simp only[List.getD,List.getElem?_drop,Array.getElem?_toList,Array.getElem?_eq_getElem h',Option.getD_some];rfl
 generalize s.data.toList.drop k=L at *;have HL:=zh hL;clear hL;have HGet:=zh hget;clear hget;have HN:=zh (fun k hk w hb=>cbyte_no s b k q hk w hb);have HY:=zh (fun k hk w hb=>cbyte_yes s (by omega) b k q hk w hb);have HMy:=zh (cmust_yes 5);have HMn:=zh (cmust_no 5);have HCa:=zh (fun n w=>canon_any n w);have hbr:=fun n w=>bits_run n w
 have hfb:=frombits_run;go_in;go_wp2_with fail
 go_loopw [3,5] (fun av iv wr=>∃ i a:Nat,av=.int .u64 (a:Int)∧iv=.int .i64 (i:Int)∧i≤8∧Hid (a=beN (L.take i))∧k+i≤s.size∧RdB b s (k+i) q wr∧Fr [b] w wr) (fun _ iv _=>8 - (intOf iv).toNat)
 case atStart=>exact⟨0,0,rfl,rfl,by omega,by show _=_;rw[List.take_zero];rfl,by omega,hb,Fr.refl _ _⟩
 case round =>
  obtain⟨i,a,rfl,rfl,hi,hA,hki,hrd,hfr⟩:=hrel;by_cases h8:i<8
  ·have t1:decide ((i:Int)<8)=true:=by simp;omega
   have ha:=beN_lt8 (l:=L) (i:=i) (by rw[HL.out];omega) (by omega);rw[←hA.out]at ha;have w1:IntKind.u64.wrap ((a:Int)*256)=(a:Int)*256:=by rw[IntKind.wrap_u64];omega
   by_cases hlt:k+i<s.size
   ·have HYY:=zh (HY.out (k+i) hlt wr hrd);have HG:=zh (HGet.out i hlt);generalize s[k+i]'hlt=c at *;have hc:=c.toNat_lt;have w2:IntKind.u64.wrap (c.toNat:Int)=(c.toNat:Int):=by rw[IntKind.wrap_u64];omega
    have w3:=or_256 ha hc;have HT:=zh (beN_take (l:=L) (i:=i) (by rw[HL.out];omega));go_wp2_with fail
    refine(HYY.out).mono ?_;rintro e w4 ⟨rfl,hr1,hf1⟩;go_wp2_with fail
    go_roundw
    case rel=>exact⟨i+1,a*256+c.toNat,by go_num,by go_num,by omega,by show _=_;rw[HT.out,←HG.out,←hA.out],by omega,hr1,hfr.trans hf1⟩
    case measure=>simp[intOf];omega
   ·have HNN:=zh (HN.out (k+i) (by omega) wr hrd);have HS:=zh (rdFlt_short (l:=L) (by rw[HL.out];omega));go_wp2_with fail
    refine(HNN.out).mono ?_;rintro e w4 ⟨rfl,hf1⟩;go_wp2_with fail
    exact⟨rfl,by rw[HS.out];exact⟨⟨14,by decide,rfl⟩,hfr.trans hf1⟩⟩
  ·have t1:decide ((i:Int)<8)=false:=by simp;omega
   have hi8:i=8:=by omega
   subst hi8;have HS:=zh (rdFlt_long (l:=L) (by rw[HL.out];omega));rw[←hA.out]at HS;have HD:=zh (show s.size - (L.drop 8).length=k+8 by rw[List.length_drop,HL.out];omega);by_cases hcn:canon a=a
   ·have t2:((canon a:Int)==(a:Int))=true:=by simp[hcn]
    have t2':(canon a==a)=true:=by simp[hcn]
    rw[if_pos hcn]at HS;have HC:=zh hcn;clear hcn;go_wp2_with fail
    refine(HCa.out _ _).mono ?_;rintro e w4 ⟨rfl,rfl⟩;go_wp2_with fail
    refine(HMy.out _).mono ?_;rintro e w4 ⟨rfl,rfl⟩;go_wp2_with fail
    go_ret;rw[HS.out];exact⟨rfl,by dsimp only;rw[HD.out];exact hrd,hfr⟩
   ·have t2:((canon a:Int)==(a:Int))=false:=by simp;omega
    have t2':(canon a==a)=false:=by simp;omega
    rw[if_neg hcn]at HS;go_wp2_with fail
    refine(HCa.out _ _).mono ?_;rintro e w4 ⟨rfl,rfl⟩;go_wp2_with fail
    refine(HMn.out _).mono ?_;rintro e w4 ⟨rfl,rfl⟩;go_wp2_with fail
    exact⟨rfl,by rw[HS.out];exact⟨⟨5,by decide,rfl⟩,hfr⟩⟩
end
end Go.Proofs.YtepaaochgljcdaaGreatDoor
