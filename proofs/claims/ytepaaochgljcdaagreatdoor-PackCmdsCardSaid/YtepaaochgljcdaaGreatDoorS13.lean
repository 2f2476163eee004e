/-
  U9, Ak, A3, Av, Aj, Al, Ay, Af in one text.
-/
import Derived.Test.YtepaaochgljcdaaGreatDoorS10
import Derived.Test.YtepaaochgljcdaaGreatDoorS11
import Derived.Test.YtepaaochgljcdaaGreatDoorS12
import Derived.Test.YtepaaochgljcdaaGreatDoorCl
set_option maxRecDepth 100000
set_option maxHeartbeats 4000000
namespace Go.Proofs.YtepaaochgljcdaaGreatDoor
section
open Go
mutual
theorem ordV_same:∀ (a b:VT),canV a=canV b→ordV a b=0
 | .mk k n f s ns its,.mk k' n' f' s' ns' its',h=>by
  rw[canV,canV]at h;simp only[VT.mk.injEq]at h;obtain⟨rfl,rfl,hf,rfl,rfl,hi⟩:=h;have hl:=ordL_same its its' hi;rw[ordV,if_pos rfl,sgnI_self,txtO_self,rowsO_self,if_pos rfl,if_pos rfl,if_pos rfl,hl,ordB_can hf];repeat' split
  all_goals rfl
theorem ordL_same:∀ (l m:List VT),canL l=canL m→ordL l m=0
 | [],[],_=>by rw[ordL];rfl
 | [],y::m,h=>by rw[canL,canL]at h;cases h
 | x::l,[],h=>by rw[canL,canL]at h;cases h
 | x::l,y::m,h=>by
  rw[canL,canL]at h;simp only[List.cons.injEq]at h;rw[ordL,ordV_same x y h.1,if_pos rfl];exact ordL_same l m h.2
end
theorem sameV_can {a b:VT} (h:canV a=canV b):sameV a b=true:=by
 unfold sameV;rw[ordV_same a b h];rfl
end
section
open Go.RowKit
/-- the same as none at all -/
def sameZ (v:VT):Bool:=sameV v noVT
theorem bare_can {v:VT} (hk:v.kind=0) (h:bareV v false false false false=true):canV v=canV noVT:=by
 obtain⟨k,n,f,s,ns,its⟩:=v;simp only[bareV,VT.num,VT.flt,VT.str,VT.names,VT.items,Bool.false_or,Bool.and_eq_true,List.isEmpty_iff]at h;obtain⟨h1,h2,h3,h4,h5⟩:=h;have hk:k=0:=hk;have e1:n=0:=of_decide_eq_true h1;subst hk;subst e1;subst h3;subst h4;subst h5;have hz:canon f=0:=by simpa [zeroB] using h2
 rw[canV,hz,canL];rfl
theorem bare_same {v:VT} (hk:v.kind=0) (h:bareV v false false false false=true):sameZ v=true:=sameV_can (bare_can hk h)
theorem noVT_at (w:World) (d:Nat):ValAt w (d+1) noVT #[.int .i64 0,.int .i64 0,.float .f64 0,.string ⟨#[]⟩,.slice none 0 0,.slice none 0 0] :=
 (ValIn.leaf (S:=fun _=>True) (w:=w) (k:=0) (n:=0) (f:=0) (t:=[]) (by omega) (by omega) (by unfold F64;omega) (by simp) d).at
theorem vsame0_any (d:Nat) (v:VT) (cs:Array Value) (w:World) (h:ValAt w (d+1) v cs) :
  Calls Tryz.prog 47 #[.agg cs,.agg #[.int .i64 0,.int .i64 0,.float .f64 0,.string ⟨#[]⟩,.slice none 0 0,.slice none 0 0]] w (Gives (.bool (sameZ v)) w) :=
 vSame_any _ _ v noVT _ _ w h (noVT_at w 0)
end
section
open Go.RowKit
def valsE:List VT→Option (List UInt8)
 | []=>some []
 | v::l=>if rightB v then preB (encV v) (valsE l) else none
/-- the bytes of a value or none -/
def someE (v:VT):Option (List UInt8):=if v.kind=0 then(if bareV v false false false false then some [0] else none) else preB [1] (valsE [v])
theorem pwhole_yes (q:List UInt8) (B b:Nat) (o:List UInt8) (ho:o.length+q.length≤100000000) (w:World) (hb:Bld 87 B b o w) :
  Calls Tryz.prog 34 #[.pointer (some ⟨b,0,none⟩),.string ⟨q.toArray⟩,.int .i64 0] w (WrOr 87 B b o (some q) w):=by
 have HMy:=zh must_yes;have HW:=zh (hb.writeS bt_snap q ho);go_in;go_wp2_with fail
 refine(HMy.out _).mono ?_;rintro e w1 ⟨rfl,rfl⟩;go_wp2_with fail
 refine(HW.out).mono ?_;rintro e w2 ⟨rfl,hb2,hw2⟩;go_wp2_with fail
 go_end0;exact⟨rfl,hb2,hw2⟩
theorem pwhole_no (s:ByteArray) (B b:Nat) (o:List UInt8) (w:World) :
  Calls Tryz.prog 34 #[.pointer (some ⟨b,0,none⟩),.string s,.int .i64 5] w (WrOr 87 B b o none w):=by
 have HMn:=zh must_no;go_in;go_wp2_with fail
 refine(HMn.out _).mono ?_;rintro e w1 ⟨rfl,rfl⟩;go_wp2_with fail
 exact⟨rfl,rfl,Below.refl _ _⟩
theorem psome_any (v:VT) (d:Nat) (cs:Array Value) (B b:Nat) (o:List UInt8) (ho:o.length≤89000000) (u w:World) (hu:u.heap.size≤B) (huw:Below u.heap.size u w) (hb:Bld 87 B b o w) (hv:ValAt u (d+1) v cs) :
  Calls Tryz.prog 18 #[.pointer (some ⟨b,0,none⟩),.agg cs] w (WrOr 87 B b o (someE v) w):=by
 obtain⟨pp,pc,p,cap,rfl⟩:=hv.sixS;have hsf:∀ (a:Addr) (x:Nat) (m:Mode) (w:World),(store a (.float .f64 x) m).run Tryz.prog w=stored Tryz.prog w a (.float .f64 x) m:=fun a x m w=>run_store _ w a _ m rfl
 have hA:Below w.heap.size w (w.alloc (.cells #[.int .i64 v.kind,.int .i64 v.num,.float .f64 v.flt,.string ⟨v.str.toArray⟩,.slice pp v.names.length pc,.slice p v.items.length cap] 28)):=(Below.refl _ _).alloc (Nat.le_refl _) _;have hnew:(w.alloc (.cells #[.int .i64 v.kind,.int .i64 v.num,.float .f64 v.flt,.string ⟨v.str.toArray⟩,.slice pp v.names.length pc,.slice p v.items.length cap] 28)).heap[w.heap.size]?=some (.cells #[.int .i64 v.kind,.int .i64 v.num,.float .f64 v.flt,.string ⟨v.str.toArray⟩,.slice pp v.names.length pc,.slice p v.items.length cap] 28 (0,0)):=heap_alloc_new w _;have hbA:=hb.alloc (.cells #[.int .i64 v.kind,.int .i64 v.num,.float .f64 v.flt,.string ⟨v.str.toArray⟩,.slice pp v.names.length pc,.slice p v.items.length cap] 28);have hwA:=(Wrote.refl B b w).alloc hb.1 (.cells #[.int .i64 v.kind,.int .i64 v.num,.float .f64 v.flt,.string ⟨v.str.toArray⟩,.slice pp v.names.length pc,.slice p v.items.length cap] 28);have huA:Below u.heap.size u (w.alloc (.cells #[.int .i64 v.kind,.int .i64 v.num,.float .f64 v.flt,.string ⟨v.str.toArray⟩,.slice pp v.names.length pc,.slice p v.items.length cap] 28)):=huw.trans (hA.mono huw.size);have hbn:w.heap.size≠b:=by have:=hb.lt.1;omega
 have hcell:∀ j,(w.alloc (.cells #[.int .i64 v.kind,.int .i64 v.num,.float .f64 v.flt,.string ⟨v.str.toArray⟩,.slice pp v.names.length pc,.slice p v.items.length cap] 28)).cell? ⟨w.heap.size,j,none⟩=(#[.int .i64 v.kind,.int .i64 v.num,.float .f64 v.flt,.string ⟨v.str.toArray⟩,.slice pp v.names.length pc,.slice p v.items.length cap]:Array Value)[j]?:=fun j=>by rw[zc hnew]
 by_cases hk:v.kind=0
 ·have t1:(v.kind==0)=true:=by rw[hk];rfl
  have HS:=zh (vsame0_any d v _ _ (hv.kept huA));have HR:=zh (fun x (hx:Below (w.alloc (.cells #[.int .i64 v.kind,.int .i64 v.num,.float .f64 v.flt,.string ⟨v.str.toArray⟩,.slice pp v.names.length pc,.slice p v.items.length cap] 28)).heap.size (w.alloc (.cells #[.int .i64 v.kind,.int .i64 v.num,.float .f64 v.flt,.string ⟨v.str.toArray⟩,.slice pp v.names.length pc,.slice p v.items.length cap] 28)) x)=>pRight_x d v _ _ hk x ((hv.kept huA).kept hx));have HCl:=zh (fun x (hx:Below (w.alloc (.cells #[.int .i64 v.kind,.int .i64 v.num,.float .f64 v.flt,.string ⟨v.str.toArray⟩,.slice pp v.names.length pc,.slice p v.items.length cap] 28)).heap.size (w.alloc (.cells #[.int .i64 v.kind,.int .i64 v.num,.float .f64 v.flt,.string ⟨v.str.toArray⟩,.slice pp v.names.length pc,.slice p v.items.length cap] 28)) x) j=>(show x.cell? ⟨w.heap.size,j,none⟩=(#[.int .i64 v.kind,.int .i64 v.num,.float .f64 v.flt,.string ⟨v.str.toArray⟩,.slice pp v.names.length pc,.slice p v.items.length cap]:Array Value)[j]? from by rw[zc ((hx.block _ (lt_of_block hnew)).trans hnew)]));have HB0:=zh (hbA);have HWA:=zh hwA;have hE:someE v=if bareV v false false false false then some [0] else none:=by rw[someE,if_pos hk]
  have hBS:=bare_same (v:=v) hk;have HMy:=zh must_yes;have HMn:=zh must_no;have HW:=zh (fun(o:List UInt8) (ho:o.length≤100000000) (w:World) (h:Bld 87 B b o w)=>h.write bt_snap ho 0);generalize bareV v false false false false=X at *;generalize sameZ v=Y at *;clear hk hbA hwA huA hv hnew hA hb;have x0:=hcell 0;have x1:=hcell 1;have x2:=hcell 2;have x3:=hcell 3;have x4:=hcell 4;have x5:=hcell 5;simp at x0 x1 x2 x3 x4 x5;clear hcell;cases Y
  ·have hX:X=false:=by
    cases X
    ·rfl
    ·cases hBS rfl
   subst hX;have HE:=zh hE;clear hE hBS;go_in;go_wp2_with fail
   refine(HS.out).mono ?_;rintro e w2 ⟨rfl,hb2⟩;go_wp2_with fail
   refine(HMn.out _).mono ?_;rintro e w3 ⟨rfl,rfl⟩;go_wp2_with fail
   exact⟨rfl,by rw[HE.out];exact⟨rfl,(HWA.out.below HB0.out.1 hb2).1⟩⟩
  ·clear hBS;cases X
   ·have HE:=zh hE;clear hE;go_in;go_wp2_with fail
    refine(HS.out).mono ?_;rintro e w2 ⟨rfl,hb2⟩;go_wp2_with fail
    refine(HMy.out _).mono ?_;rintro e w3 ⟨rfl,rfl⟩;clear x0 x1 x2 x3 x4 x5;have x0:=HCl.out _ hb2 0;have x1:=HCl.out _ hb2 1;have x2:=HCl.out _ hb2 2;have x3:=HCl.out _ hb2 3;have x4:=HCl.out _ hb2 4;have x5:=HCl.out _ hb2 5;simp at x0 x1 x2 x3 x4 x5;have HR2:=zh (HR.out _ hb2);go_wp2_with fail
    refine(HR2.out).mono ?_;rintro e w4 ⟨rfl,hb4⟩;go_wp2_with fail
    refine(HMn.out _).mono ?_;rintro e w5 ⟨rfl,rfl⟩;go_wp2_with fail
    exact⟨rfl,by rw[HE.out];exact⟨rfl,((HWA.out.below HB0.out.1 hb2).below (HB0.out.below hb2).1 hb4).1⟩⟩
   ·have HE:=zh hE;clear hE;go_in;go_wp2_with fail
    refine(HS.out).mono ?_;rintro e w2 ⟨rfl,hb2⟩;go_wp2_with fail
    refine(HMy.out _).mono ?_;rintro e w3 ⟨rfl,rfl⟩;clear x0 x1 x2 x3 x4 x5;have x0:=HCl.out _ hb2 0;have x1:=HCl.out _ hb2 1;have x2:=HCl.out _ hb2 2;have x3:=HCl.out _ hb2 3;have x4:=HCl.out _ hb2 4;have x5:=HCl.out _ hb2 5;simp at x0 x1 x2 x3 x4 x5;have HR2:=zh (HR.out _ hb2);go_wp2_with fail
    refine(HR2.out).mono ?_;rintro e w4 ⟨rfl,hb4⟩;go_wp2_with fail
    refine(HMy.out _).mono ?_;rintro e w5 ⟨rfl,rfl⟩;go_wp2_with fail
    refine(HW.out o (by omega) _ ((HB0.out.below hb2).below hb4)).mono ?_;rintro e w6 ⟨rfl,hb6,hw6⟩;go_wp2_with fail
    go_end0;rw[HE.out];exact⟨rfl,hb6,((HWA.out.below HB0.out.1 hb2).below (HB0.out.below hb2).1 hb4).trans hw6⟩
 ·have t1:(v.kind==0)=false:=beq_eq_false_iff_ne.2 hk;have hE:someE v=preB [1] (valsE [v]):=by rw[someE,if_neg hk]
  have hVE:valsE [v]=if rightB v then some (encV v) else none:=by rw[valsE,valsE];simp[preB]
  have HW:=zh (fun(o:List UInt8) (ho:o.length≤100000000) (w:World) (h:Bld 87 B b o w)=>h.write bt_snap ho 1);have HB0:=zh (hbA);have HWA:=zh hwA;have HC:=zh (fun(x:World) (h:Wrote B b (w.alloc (.cells #[.int .i64 v.kind,.int .i64 v.num,.float .f64 v.flt,.string ⟨v.str.toArray⟩,.slice pp v.names.length pc,.slice p v.items.length cap] 28)) x) j=>(show x.cell? ⟨w.heap.size,j,none⟩=(#[.int .i64 v.kind,.int .i64 v.num,.float .f64 v.flt,.string ⟨v.str.toArray⟩,.slice pp v.names.length pc,.slice p v.items.length cap]:Array Value)[j]? from by rw[zc (h.block hnew hbn (by decide))]));have HVV:=zh (fun(x:World) (h:Wrote B b (w.alloc (.cells #[.int .i64 v.kind,.int .i64 v.num,.float .f64 v.flt,.string ⟨v.str.toArray⟩,.slice pp v.names.length pc,.slice p v.items.length cap] 28)) x)=>cValue_any (d+1) v _ x (hv.kept (huA.trans (h.1.mono hu))));have HE:=zh hE;have hct:cvalT v=if rightB v then .tuple #[.string ⟨(encV v).toArray⟩,.int .i64 0] else .tuple #[.string ⟨#[]⟩,.int .i64 5]:=rfl
  have hel:rightB v=true→(encV v).length≤60000:=fun h=>rightB_len h
  clear hk hbA hwA huA hv hnew hA hE hb hcell;generalize rightB v=Y at *;generalize valsE [v]=V at *;generalize cvalT v=CV at *;generalize encV v=E at *;have HY:=zh (fun(x:World) (hx:Bld 87 B b (o++[1]) x) (hl:(o++[1]).length+E.length≤100000000)=>pwhole_yes E B b (o++[1]) hl x hx);have HNo:=zh (fun(x:World)=>pwhole_no ⟨#[]⟩ B b (o++[1]) x);go_in;go_wp2_with fail
  refine(HW.out o (by omega) _ (HB0.out)).mono ?_;rintro e w2 ⟨rfl,hb2,hw2⟩;have x0:=HC.out _ hw2 0;have x1:=HC.out _ hw2 1;have x2:=HC.out _ hw2 2;have x3:=HC.out _ hw2 3;have x4:=HC.out _ hw2 4;have x5:=HC.out _ hw2 5;simp at x0 x1 x2 x3 x4 x5;have HV2:=zh (HVV.out _ hw2);cases Y with
  | false =>
   replace hct:CV=.tuple #[.string ⟨#[]⟩,.int .i64 5]:=hct;subst hct;replace hVE:V=none:=hVE;subst hVE;clear hel;go_wp2_with fail
   refine(HV2.out).mono ?_;rintro e w3 ⟨rfl,hb3⟩;go_wp2_with fail
   refine(HNo.out _).mono ?_;rintro e w4 ⟨rfl,hb4⟩;go_wp2_with fail
   exact⟨rfl,by rw[HE.out];exact⟨rfl,((HWA.out.trans hw2).below hb2.1 hb3).1.trans hb4⟩⟩
  | true =>
   replace hct:CV=.tuple #[.string ⟨E.toArray⟩,.int .i64 0]:=hct;subst hct;replace hVE:V=some E:=hVE;subst hVE;have hl2:=zh (show(o++[1]).length+E.length≤100000000 by have:=hel rfl;simp;omega);clear hel;go_wp2_with fail
   refine(HV2.out).mono ?_;rintro e w3 ⟨rfl,hb3⟩;go_wp2_with fail
   refine(HY.out _ (hb2.below hb3) hl2.out).mono ?_;rintro e w4 ⟨rfl,hb4,hw4⟩;go_wp2_with fail
   go_end0;rw[HE.out];refine⟨rfl,?_,((HWA.out.trans hw2).below hb2.1 hb3).trans hw4⟩;rw[show o++([1]++E)=o++[1]++E by simp];exact hb4
end
section
open Go.RowKit
def catO (a b:Option (List UInt8)):Option (List UInt8) :=
 match a with
 | none=>none
 | some x=>preB x b
theorem catO_nr (a:Option (List UInt8)):catO a none=none:=by cases a<;>rfl
theorem catO_assoc (a b c:Option (List UInt8)):catO (catO a b) c=catO a (catO b c):=by
 cases a with
 | none=>rfl
 | some a =>
  cases b with
  | none=>rfl
  | some b=>cases c with
   | none=>rfl
   | some c=>simp[catO,preB]
end
section
open Go.RowKit
theorem zeroB_can (f:Nat):zeroB (canon f)=zeroB f:=by unfold zeroB;rw[canon_canon]
theorem canL_isE (l:List VT):(canL l).isEmpty=l.isEmpty:=by cases l<;>rfl
mutual
theorem rightV_can:∀ (v:VT) (far:Nat),rightV (canV v) far=rightV v far
 | .mk k n f s ns its,far=>by
  rw[canV,rightV,rightV,zeroB_can,canL_isE,canL_length,rightL_can its (far - 1)]
theorem rightL_can:∀ (l:List VT) (far:Nat),rightL (canL l) far=rightL l far
 | [],_=>by rw[canL]
 | x::xs,far=>by rw[canL,rightL,rightL,rightV_can x far,rightL_can xs far]
end
mutual
theorem countV_can:∀ (v:VT) (n:Nat),countV (canV v) n=countV v n
 | .mk k m f s ns its,n=>by rw[canV,countV,countV,countL_can its]
theorem countL_can:∀ (l:List VT) (n:Nat),countL (canL l) n=countL l n
 | [],_=>by rw[canL]
 | x::xs,n=>by rw[canL,countL,countL,countV_can x,countL_can xs]
end
theorem rightB_can (v:VT):rightB (canV v)=rightB v:=by unfold rightB;rw[countV_can,rightV_can]
theorem rdVal_enc' {v:VT} (r:List UInt8) (h:rightB v=true) (hin:inV v):rdVal (encV v++r)=some (canV v,r):=rdVal_enc r h hin (by rw[rightB_can];exact h)
theorem numR_enc {n:Nat} (h:n≤10000) (t:List UInt8):numR (uintS n++t)=some (n,t):=by
 unfold numR;rw[rdU_enc t (by omega)];exact if_pos h
/-- counts that can be written are such numbers -/
theorem numsE_open {n:Int} {l:List Int} {q:List UInt8} (h:numsE (n::l)=some q):∃ k:Nat,n=(k:Int)∧k≤10000∧∃ q2,numsE l=some q2∧q=uintS k++q2:=by
 rw[numsE]at h;split at h
 ·rename_i hn;have hn:0≤n∧n≤10000:=by simpa [inN] using hn
  split at h
  ·cases h
  ·rename_i q2 hq;cases h
   exact⟨n.toNat,by omega,by omega,q2,hq,rfl⟩
 ·cases h
theorem numsE_end {q:List UInt8} (h:numsE []=some q):q=[]:=by cases h;rfl
theorem catO_open {a b:Option (List UInt8)} {q:List UInt8} (h:catO a b=some q):∃ x y,a=some x∧b=some y∧q=x++y:=by
 cases a with
 | none=>cases h
 | some x=>cases b with
  | none=>cases h
  | some y=>cases h;exact⟨x,y,rfl,rfl,rfl⟩
theorem preB_open {a:List UInt8} {b:Option (List UInt8)} {q:List UInt8} (h:preB a b=some q):∃ y,b=some y∧q=a++y:=by
 cases b with
 | none=>cases h
 | some y=>cases h;exact⟨y,rfl,rfl⟩
theorem valsE_open {v:VT} {l:List VT} {q:List UInt8} (h:valsE (v::l)=some q):rightB v=true∧∃ q2,valsE l=some q2∧q=encV v++q2:=by
 rw[valsE]at h;split at h
 ·rename_i hr;exact⟨hr,preB_open h⟩
 ·cases h
theorem bare_none {v:VT} (hk:v.kind=0) (h:bareV v false false false false=true):canV v=noVT:=by
 obtain⟨k,n,f,s,ns,its⟩:=v;simp only[bareV,VT.num,VT.flt,VT.str,VT.names,VT.items,Bool.false_or,Bool.and_eq_true,List.isEmpty_iff]at h;obtain⟨h1,h2,h3,h4,h5⟩:=h;have hk:k=0:=hk;have e1:n=0:=of_decide_eq_true h1;subst hk;subst e1;subst h3;subst h4;subst h5;have hz:canon f=0:=by simpa [zeroB] using h2
 rw[canV,hz,canL];rfl
theorem someR_enc {v:VT} {q:List UInt8} (t:List UInt8) (hin:inV v) (h:someE v=some q):someR (q++t)=some (canV v,t):=by
 unfold someE at h;split at h
 ·rename_i hk;split at h
  ·rename_i hb;cases h
   rw[bare_none hk hb];rfl
  ·cases h
 ·obtain⟨y,h1,rfl⟩:=preB_open h;obtain⟨hr,q2,h2,rfl⟩:=valsE_open h1;cases h2
  rw[List.append_nil];show someR (1::(encV v++t))=_;unfold someR;dsimp only;rw[if_neg (by decide),if_pos (by decide)];exact rdVal_enc' t hr hin
/-- a command -/
structure CmdT where
 kind:Int
 node:Int
 label:Int
 inst:Int
 n:Int
 key:VT
 v:VT
def cmdE (c:CmdT):Option (List UInt8):=catO (numsE [c.kind,c.node,c.label,c.inst,c.n]) (catO (someE c.key) (someE c.v))
def cmdR (l:List UInt8):Option (CmdT × List UInt8) :=
 (numR l).bind fun a=>(numR a.2).bind fun b=>(numR b.2).bind fun c=>(numR c.2).bind fun d=>(numR d.2).bind fun e=>(someR e.2).bind fun k=>(someR k.2).bind fun v=>some (⟨(a.1:Int),(b.1:Int),(c.1:Int),(d.1:Int),(e.1:Int),k.1,v.1⟩,v.2)
def canC (c:CmdT):CmdT:=⟨c.kind,c.node,c.label,c.inst,c.n,canV c.key,canV c.v⟩
theorem cmdR_enc {c:CmdT} {q:List UInt8} (t:List UInt8) (hk:inV c.key) (hv:inV c.v) (h:cmdE c=some q):cmdR (q++t)=some (canC c,t):=by
 obtain⟨x,y,h1,h2,rfl⟩:=catO_open h;obtain⟨k,z,h3,h4,rfl⟩:=catO_open h2;obtain⟨a0,e0,b0,q0,g0,rfl⟩:=numsE_open h1;obtain⟨a1,e1,b1,q1,g1,rfl⟩:=numsE_open g0;obtain⟨a2,e2,b2,q2,g2,rfl⟩:=numsE_open g1;obtain⟨a3,e3,b3,q3,g3,rfl⟩:=numsE_open g2;obtain⟨a4,e4,b4,q4,g4,rfl⟩:=numsE_open g3;cases numsE_end g4
 unfold cmdR;simp only[List.append_assoc,List.nil_append];simp only[numR_enc b0,numR_enc b1,numR_enc b2,numR_enc b3,numR_enc b4,Option.bind_some];rw[someR_enc _ hk h3];simp only[Option.bind_some];rw[someR_enc _ hv h4];simp only[Option.bind_some];rw[canC,e0,e1,e2,e3,e4]
theorem someE_len {v:VT} {q:List UInt8} (h:someE v=some q):q.length≤60001:=by
 unfold someE at h;split at h
 ·split at h
  ·cases h;simp
  ·cases h
 ·obtain⟨y,h1,rfl⟩:=preB_open h;obtain⟨hr,q2,h2,rfl⟩:=valsE_open h1;cases h2
  have:=rightB_len hr;simp;omega
theorem cmdE_len {c:CmdT} {q:List UInt8} (h:cmdE c=some q):q.length≤200000:=by
 obtain⟨x,y,h1,h2,rfl⟩:=catO_open h;obtain⟨k,z,h3,h4,rfl⟩:=catO_open h2;have:=numsE_len _ _ h1;have:=someE_len h3;have:=someE_len h4;simp at *;omega
end
section
open Go.RowKit
theorem Bld.ne_of {T U:TypeId} {B b g:Nat} {o:List UInt8} {w:World} {cs:Array Value} {fz:Nat × Nat} (h:Bld T B b o w) (hg:w.heap[g]?=some (.cells cs U fz)) (hU:U≠T):g≠b:=by
 rintro rfl;rcases h.2 with h|h<;>obtain⟨_,v,h,_⟩:=h<;>rw[hg]at h<;>injection h with h<;>injection h with _ h<;>exact absurd h hU
/-- what a call that writes answers -/
def bytesC:Option (List UInt8)→Value
 | some r=>.tuple #[.string ⟨r.toArray⟩,.int .i64 0]
 | none=>.tuple #[.string ⟨#[]⟩,.int .i64 5]
theorem written_any (fn g:Nat) (hen:∀ args w,(callFunc fn args).run Tryz.prog w=.ok (.enter fn args) w) (r:Option (List UInt8)) (w:World)
  (hcl:Calls Tryz.prog fn #[.pointer (some ⟨w.heap.size+1,0,none⟩),.pointer (some ⟨g,0,none⟩)] ((w.alloc (.cells #[.int .i64 0] 33)).alloc (.cells #[.pointer none,.slice none 0 0] 87)) (WrOr 87 (w.heap.size+1) (w.heap.size+1) [] r ((w.alloc (.cells #[.int .i64 0] 33)).alloc (.cells #[.pointer none,.slice none 0 0] 87)))) :
  Calls Tryz.prog 15 #[.func (.func fn) #[] #[.pointer (some ⟨g,0,none⟩)]] w (Gives (bytesC r) w):=by
 have HT:=zh (fun(B b:Nat) (o:List UInt8) (w:World) (h:Bld 87 B b o w)=>h.text bt_snap);have e1:(w.alloc (.cells #[.int .i64 0] 33)).heap.size=w.heap.size+1:=by simp
 have he:((w.alloc (.cells #[.int .i64 0] 33)).alloc (.cells #[.pointer none,.slice none 0 0] 87)).heap[w.heap.size]?=some (.cells #[.int .i64 0] 33 (0,0)):=by
  rw[Lib.alloc_old _ _ _ (by simp)];exact heap_alloc_new w _
 have hB0:Below w.heap.size w ((w.alloc (.cells #[.int .i64 0] 33)).alloc (.cells #[.pointer none,.slice none 0 0] 87)):=((Below.refl _ _).alloc (Nat.le_refl _) _).alloc (by simp) _;have hs2:((w.alloc (.cells #[.int .i64 0] 33)).alloc (.cells #[.pointer none,.slice none 0 0] 87)).heap.size=w.heap.size+1+1:=by simp
 have HP1:=zh hcl;have HX:=zh he;clear he e1 hcl;cases r with
 | none =>
  go_enter_defers Tryz.func15,Tryz.ntmps15
  go_wp2_with fail
  refine(HP1.out).mono ?_;rintro e w1 ⟨rfl,hb1⟩;have hB1:=hB0.trans (hb1.mono (by omega));have he1:=(hb1.block w.heap.size (by omega)).trans HX.out;have c0:w1.cell? ⟨w.heap.size,0,none⟩=some (.int .i64 0):=by rw[zc he1];rfl
  have f0:w1.frozen? ⟨w.heap.size,0,none⟩=false:=Lib.frozen_of_heap he1 0;go_wp2_with fail
  refine leaves_cons (f:=21) (args:=#[.pointer (some ⟨w.heap.size,0,none⟩)]) (by simp) (by simp[go_sem]) ?_;refine(caught_up ⟨w.heap.size,0,none⟩ 5 0 _ c0 f0).mono ?_;rintro e u' w'' ⟨rfl,rfl,rfl⟩;have hc2:(w1.setCell ⟨w.heap.size,0,none⟩ (.int .i64 5)).cell? ⟨w.heap.size,0,none⟩=some (.int .i64 5):=World.cell?_setCell_same _ _ _ c0;have hfin:Below w.heap.size w (w1.setCell ⟨w.heap.size,0,none⟩ (.int .i64 5)):=hB1.setCell (p:=⟨w.heap.size,0,none⟩) (by simp) _;simp[Leaves,settle,results,Tryz.results15,go_sem,hc2];exact⟨rfl,hfin⟩
 | some r =>
  go_enter_defers Tryz.func15,Tryz.ntmps15
  go_wp2_with fail
  refine(HP1.out).mono ?_;rintro e w1 ⟨rfl,hb1,hw1⟩;rw[List.nil_append]at hb1;have hB1:=hB0.trans (hw1.1.mono (by omega));have he1:=hw1.block HX.out (by omega) (by decide);have hsz:=hw1.size;go_wp2_with fail
  refine(HT.out _ _ _ _ hb1).mono ?_;rintro e w2 ⟨rfl,hb2⟩;have he2:=(hb2.block w.heap.size (by omega)).trans he1;have c0:w2.cell? ⟨w.heap.size,0,none⟩=some (.int .i64 0):=by rw[zc he2];rfl
  have f0:w2.frozen? ⟨w.heap.size,0,none⟩=false:=Lib.frozen_of_heap he2 0;go_wp2_with fail
  refine leaves_cons (f:=21) (args:=#[.pointer (some ⟨w.heap.size,0,none⟩)]) (by simp) (by simp[go_sem]) ?_;refine(caught_idle ⟨w.heap.size,0,none⟩ _).mono ?_;rintro e u' w'' ⟨rfl,rfl,rfl⟩;have hc2:(w2.setCell ⟨w.heap.size,0,none⟩ (.int .i64 0)).cell? ⟨w.heap.size,0,none⟩=some (.int .i64 0):=World.cell?_setCell_same _ _ _ c0;have hfin:Below w.heap.size w (w2.setCell ⟨w.heap.size,0,none⟩ (.int .i64 0)):=(hB1.trans (hb2.mono (by omega))).setCell (p:=⟨w.heap.size,0,none⟩) (by simp) _;simp[Leaves,settle,results,Tryz.results15,go_sem,hc2];exact⟨rfl,hfin⟩
/-- the cells of a command -/
def CmdAt (w:World) (d:Nat) (c:CmdT) (cs:Array Value):Prop:=∃ pp pc p cap pp' pc' p' cap',cs=#[.int .i64 c.kind,.int .i64 c.node,.int .i64 c.label,.int .i64 c.inst,.int .i64 c.n,.int .i64 c.key.kind,.int .i64 c.key.num,.float .f64 c.key.flt,.string ⟨c.key.str.toArray⟩,.slice pp c.key.names.length pc,.slice p c.key.items.length cap,.int .i64 c.v.kind,.int .i64 c.v.num,.float .f64 c.v.flt,.string ⟨c.v.str.toArray⟩,.slice pp' c.v.names.length pc',.slice p' c.v.items.length cap']∧ValAt w d c.key #[.int .i64 c.key.kind,.int .i64 c.key.num,.float .f64 c.key.flt,.string ⟨c.key.str.toArray⟩,.slice pp c.key.names.length pc,.slice p c.key.items.length cap]∧ValAt w d c.v #[.int .i64 c.v.kind,.int .i64 c.v.num,.float .f64 c.v.flt,.string ⟨c.v.str.toArray⟩,.slice pp' c.v.names.length pc',.slice p' c.v.items.length cap']
theorem CmdAt.kept {w w':World} {d:Nat} {c:CmdT} {cs:Array Value} (hb:Below w.heap.size w w') (h:CmdAt w d c cs):CmdAt w' d c cs:=by
 obtain⟨pp,pc,p,cap,pp',pc',p',cap',h0,h1,h2⟩:=h;exact⟨pp,pc,p,cap,pp',pc',p',cap',h0,h1.kept hb,h2.kept hb⟩
theorem pcmd1_any (c:CmdT) (d:Nat) (cs:Array Value) (g B b:Nat) (u w:World) (hu:u.heap.size≤B) (huw:Below u.heap.size u w) (hb:Bld 87 B b [] w) (hc:CmdAt u (d+1) c cs) (hg:w.heap[g]?=some (.cells cs 30 (0,0))) :
  Calls Tryz.prog 16 #[.pointer (some ⟨b,0,none⟩),.pointer (some ⟨g,0,none⟩)] w (WrOr 87 B b [] (cmdE c) w):=by
 have hne:=hb.ne_of hg (by decide);obtain⟨pp,pc,p,cap,pp',pc',p',cap',rfl,hk,hv⟩:=hc;have hE:cmdE c=catO (numsE [c.kind,c.node,c.label,c.inst,c.n]) (catO (someE c.key) (someE c.v)):=rfl;have HN:=zh (fun g w' hb' hg'=>snum_any [c.kind,c.node,c.label,c.inst,c.n] 5 #[.int .i64 c.kind,.int .i64 c.node,.int .i64 c.label,.int .i64 c.inst,.int .i64 c.n] rfl rfl (by omega) g B b [] (by decide) w' hb' hg');have hl1:=numsE_len [c.kind,c.node,c.label,c.inst,c.n];have hl2:=fun q=>someE_len (v:=c.key) (q:=q)
 have HK:=zh (fun(o:List UInt8) (ho:o.length≤89000000) (x:World) (hx:Below u.heap.size u x) (hb:Bld 87 B b o x)=>psome_any c.key d _ B b o ho u x hu hx hb hk);have HV:=zh (fun(o:List UInt8) (ho:o.length≤89000000) (x:World) (hx:Below u.heap.size u x) (hb:Bld 87 B b o x)=>psome_any c.v d _ B b o ho u x hu hx hb hv);have HC:=zh (fun(x:World) (h:Wrote B b w x) j=>(show x.cell? ⟨g,j,none⟩=(#[.int .i64 c.kind,.int .i64 c.node,.int .i64 c.label,.int .i64 c.inst,.int .i64 c.n,.int .i64 c.key.kind,.int .i64 c.key.num,.float .f64 c.key.flt,.string ⟨c.key.str.toArray⟩,.slice pp c.key.names.length pc,.slice p c.key.items.length cap,.int .i64 c.v.kind,.int .i64 c.v.num,.float .f64 c.v.flt,.string ⟨c.v.str.toArray⟩,.slice pp' c.v.names.length pc',.slice p' c.v.items.length cap']:Array Value)[j]? from by rw[zc (h.block hg hne (by decide))]));have HUW:=zh huw;have HU:=zh hu;clear hk hv hu huw;have c0:w.cell? ⟨g,0,none⟩=some (.int .i64 c.kind):=by rw[zc hg];rfl
 have c1:w.cell? ⟨g,1,none⟩=some (.int .i64 c.node):=by rw[zc hg];rfl
 have c2:w.cell? ⟨g,2,none⟩=some (.int .i64 c.label):=by rw[zc hg];rfl
 have c3:w.cell? ⟨g,3,none⟩=some (.int .i64 c.inst):=by rw[zc hg];rfl
 have c4:w.cell? ⟨g,4,none⟩=some (.int .i64 c.n):=by rw[zc hg];rfl
 clear hg;have HE:=zh hE;clear hE;generalize numsE [c.kind,c.node,c.label,c.inst,c.n]=r1 at *;generalize someE c.key=r2 at *;generalize someE c.v=r3 at *;have hA:=(Wrote.refl B b w).alloc hb.1 (.cells #[.int .i64 c.kind,.int .i64 c.node,.int .i64 c.label,.int .i64 c.inst,.int .i64 c.n] 3);have hbA:=hb.alloc (.cells #[.int .i64 c.kind,.int .i64 c.node,.int .i64 c.label,.int .i64 c.inst,.int .i64 c.n] 3);have HN1:=zh (HN.out _ _ hbA (heap_alloc_new w _));cases r1 with
 | none =>
  go_in;go_wp2_with fail
  refine(HN1.out).mono ?_;rintro e w1 ⟨rfl,hb1⟩;go_wp2_with fail
  exact⟨rfl,by rw[HE.out];exact⟨rfl,hA.1.trans hb1⟩⟩
 | some q1 =>
  have hl1:=hl1 q1 rfl;cases r2 with
  | none =>
   go_in;go_wp2_with fail
   refine(HN1.out).mono ?_;rintro e w1 ⟨rfl,hb1,hw1⟩;have hW1:=hA.trans hw1;have x0:=HC.out _ hW1 5;have x1:=HC.out _ hW1 6;have x2:=HC.out _ hW1 7;have x3:=HC.out _ hW1 8;have x4:=HC.out _ hW1 9;have x5:=HC.out _ hW1 10;simp at x0 x1 x2 x3 x4 x5;have HK1:=zh (HK.out _ (by simp at hl1 ⊢;omega) _ (HUW.out.trans (hW1.1.mono HU.out)) hb1)
   go_wp2_with fail
   refine(HK1.out).mono ?_;rintro e w2 ⟨rfl,hb2⟩;go_wp2_with fail
   exact⟨rfl,by rw[HE.out];exact⟨rfl,hW1.1.trans hb2⟩⟩
  | some q2 =>
   have hl2:=hl2 q2 rfl;cases r3 with
   | none =>
    go_in;go_wp2_with fail
    refine(HN1.out).mono ?_;rintro e w1 ⟨rfl,hb1,hw1⟩;have hW1:=hA.trans hw1;have x0:=HC.out _ hW1 5;have x1:=HC.out _ hW1 6;have x2:=HC.out _ hW1 7;have x3:=HC.out _ hW1 8;have x4:=HC.out _ hW1 9;have x5:=HC.out _ hW1 10;simp at x0 x1 x2 x3 x4 x5;have HK1:=zh (HK.out _ (by simp at hl1 ⊢;omega) _ (HUW.out.trans (hW1.1.mono HU.out)) hb1)
    go_wp2_with fail
    refine(HK1.out).mono ?_;rintro e w2 ⟨rfl,hb2,hw2⟩;have hW2:=hW1.trans hw2;clear x0 x1 x2 x3 x4 x5;have x0:=HC.out _ hW2 11;have x1:=HC.out _ hW2 12;have x2:=HC.out _ hW2 13;have x3:=HC.out _ hW2 14;have x4:=HC.out _ hW2 15;have x5:=HC.out _ hW2 16;simp at x0 x1 x2 x3 x4 x5;have HV1:=zh (HV.out _ (by simp at hl1 ⊢;omega) _ (HUW.out.trans (hW2.1.mono HU.out)) hb2)
    go_wp2_with fail
    refine(HV1.out).mono ?_;rintro e w3 ⟨rfl,hb3⟩;go_wp2_with fail
    exact⟨rfl,by rw[HE.out];exact⟨rfl,hW2.1.trans hb3⟩⟩
   | some q3 =>
    go_in;go_wp2_with fail
    refine(HN1.out).mono ?_;rintro e w1 ⟨rfl,hb1,hw1⟩;have hW1:=hA.trans hw1;have x0:=HC.out _ hW1 5;have x1:=HC.out _ hW1 6;have x2:=HC.out _ hW1 7;have x3:=HC.out _ hW1 8;have x4:=HC.out _ hW1 9;have x5:=HC.out _ hW1 10;simp at x0 x1 x2 x3 x4 x5;have HK1:=zh (HK.out _ (by simp at hl1 ⊢;omega) _ (HUW.out.trans (hW1.1.mono HU.out)) hb1)
    go_wp2_with fail
    refine(HK1.out).mono ?_;rintro e w2 ⟨rfl,hb2,hw2⟩;have hW2:=hW1.trans hw2;clear x0 x1 x2 x3 x4 x5;have x0:=HC.out _ hW2 11;have x1:=HC.out _ hW2 12;have x2:=HC.out _ hW2 13;have x3:=HC.out _ hW2 14;have x4:=HC.out _ hW2 15;have x5:=HC.out _ hW2 16;simp at x0 x1 x2 x3 x4 x5;have HV1:=zh (HV.out _ (by simp at hl1 ⊢;omega) _ (HUW.out.trans (hW2.1.mono HU.out)) hb2)
    go_wp2_with fail
    refine(HV1.out).mono ?_;rintro e w3 ⟨rfl,hb3,hw3⟩;go_wp2_with fail
    go_end0;rw[HE.out];refine⟨rfl,?_,hW2.trans hw3⟩;rw[show []++(q1++(q2++q3))=[]++q1++q2++q3 by simp];exact hb3
theorem enters_cmd:∀ args w,(callFunc 16 args).run Tryz.prog w=.ok (.enter 16 args) w:=enters_of Tryz.func16 (by kernel_rfl) rfl
theorem pCmd_any (c:CmdT) (d:Nat) (cs:Array Value) (w:World) (hc:CmdAt w (d+1) c cs):Calls Tryz.prog 6 #[.agg cs] w (Gives (bytesC (cmdE c)) w):=by
 have hmf:∀ (fn:Fn) (first cap:Array Value) (w:World),(Instr.makeFunc fn first cap).run Tryz.prog w=.ok (.func fn first cap) w:=fun _ _ _ _=>rfl
 have hA:Below w.heap.size w (w.alloc (.cells cs 30)):=(Below.refl _ _).alloc (Nat.le_refl _) _;have hA1:=heap_alloc_new w (.cells cs 30);have hc0:=hc;have hW:=written_any 16 w.heap.size enters_cmd (cmdE c) (w.alloc (.cells cs 30)) (by
  generalize w.alloc (.cells cs 30)=w' at *;have hB0:Below w'.heap.size w' ((w'.alloc (.cells #[.int .i64 0] 33)).alloc (.cells #[.pointer none,.slice none 0 0] 87)):=((Below.refl _ _).alloc (Nat.le_refl _) _).alloc (by simp) _;refine pcmd1_any c d cs w.heap.size (w'.heap.size+1) (w'.heap.size+1) w _ (by have:=hA.size;omega) (below_tr' hA hB0) ?_ hc ((hB0.block _ (lt_of_block hA1)).trans hA1);have hF:=Bld.fresh 87 (w'.alloc (.cells #[.int .i64 0] 33));rwa [show(w'.alloc (.cells #[.int .i64 0] 33)).heap.size=w'.heap.size+1 by simp]at hF)
 have HW:=zh hW;obtain⟨pp,pc,p,cap,pp',pc',p',cap',rfl,_,_⟩:=hc;clear hW hc0 hA1;generalize cmdE c=r at *;cases r with
 | none =>
  replace HW:=zh (show Calls Tryz.prog 15 _ _ (Gives (.tuple #[.string ⟨#[]⟩,.int .i64 5]) _) from HW.out);go_in;go_wp2_with fail
  refine(HW.out).mono ?_;rintro e w1 ⟨rfl,hb1⟩;go_wp2_with fail
  go_ret2;exact⟨rfl,below_tr' hA hb1⟩
 | some q =>
  replace HW:=zh (show Calls Tryz.prog 15 _ _ (Gives (.tuple #[.string ⟨q.toArray⟩,.int .i64 0]) _) from HW.out);go_in;go_wp2_with fail
  refine(HW.out).mono ?_;rintro e w1 ⟨rfl,hb1⟩;go_wp2_with fail
  go_ret2;exact⟨rfl,below_tr' hA hb1⟩
end
section
open Go.RowKit
/-- the cells of a command; its values' blocks are all of the kind S -/
def CmdIn (S:Nat→Prop) (w:World) (d:Nat) (c:CmdT) (cs:Array Value):Prop:=∃ na nl nc ia il ic na' nl' nc' ia' il' ic',cs=#[.int .i64 c.kind,.int .i64 c.node,.int .i64 c.label,.int .i64 c.inst,.int .i64 c.n,.int .i64 c.key.kind,.int .i64 c.key.num,.float .f64 c.key.flt,.string ⟨c.key.str.toArray⟩,.slice na nl nc,.slice ia il ic,.int .i64 c.v.kind,.int .i64 c.v.num,.float .f64 c.v.flt,.string ⟨c.v.str.toArray⟩,.slice na' nl' nc',.slice ia' il' ic']∧ValIn S w d c.key #[.int .i64 c.key.kind,.int .i64 c.key.num,.float .f64 c.key.flt,.string ⟨c.key.str.toArray⟩,.slice na nl nc,.slice ia il ic]∧ValIn S w d c.v #[.int .i64 c.v.kind,.int .i64 c.v.num,.float .f64 c.v.flt,.string ⟨c.v.str.toArray⟩,.slice na' nl' nc',.slice ia' il' ic']
theorem CmdIn.at {S:Nat→Prop} {w:World} {d:Nat} {c:CmdT} {cs:Array Value} (h:CmdIn S w d c cs):CmdAt w d c cs:=by
 obtain⟨na,nl,nc,ia,il,ic,na',nl',nc',ia',il',ic',rfl,h1,h2⟩:=h;have h1:=h1.at;have h2:=h2.at;obtain⟨pp,pc,p,cap,e1⟩:=h1.sixS;obtain⟨pp',pc',p',cap',e2⟩:=h2.sixS;rw[e1]at h1;rw[e2]at h2;simp only[Array.mk.injEq,List.cons.injEq]at e1 e2;exact⟨pp,pc,p,cap,pp',pc',p',cap',by rw[e1.2.2.2.2.1,e1.2.2.2.2.2.1,e2.2.2.2.2.1,e2.2.2.2.2.2.1],h1,h2⟩
end
section
open Go.RowKit
/-- x is what was to be read, or there is an error -/
def IsO {α:Type} (r:Option (α × List UInt8)) (x:α) (st:Option (List UInt8)):Prop:=match r with
 | some y=>x=y.1∧st=some y.2
 | none=>st=none
theorem isO_out {α:Type} (d:α) (r:Option (α × List UInt8)):IsO r (outR d r).1 (outR d r).2:=by
 cases r with
 | none=>rfl
 | some y=>exact⟨rfl,rfl⟩
end
end Go.Proofs.YtepaaochgljcdaaGreatDoor
