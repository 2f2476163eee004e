/-
  Tb, Tc in one text.
-/
import Derived.Test.YtaaaaggmhjhkkaaGreatDoorS18
import Derived.Test.YtaaaaggmhjhkkaaGreatDoorCl
set_option maxRecDepth 100000
set_option maxHeartbeats 4000000
namespace Go.Proofs.YtaaaaggmhjhkkaaGreatDoor
section
open Go.RowKit
theorem right_parts {x:ET} {far:Nat} (h:rightE x far=true):(∀ n:Nat,wantsE x.kind=(n:Int)→x.kids.length=n)∧(x.kind=17→x.names.length=x.kids.length)∧(if x.kind=1 then constB x.v else noneV x.v)=true∧rightEL x.kids (far - 1)=true:=by
 cases far with
 | zero=>rw[rightE_zero]at h;cases h
 | succ far =>
  rw[rightE_open]at h;simp only[Bool.and_eq_true,decide_eq_true_eq]at h;obtain⟨h1,h2,h3,h4,h5⟩:=h;refine⟨fun n hn=>by omega,fun hk=>?_,h4,h5⟩;unfold namedE at h3;rw[if_neg (by omega),if_neg (by omega),if_pos hk]at h3;simp only[Bool.and_eq_true,decide_eq_true_eq]at h3;exact h3.2
theorem rightE_kind {x:ET} {far:Nat} (h:rightE x far=true):1≤x.kind∧x.kind≤23:=by
 cases far with
 | zero=>rw[rightE_zero]at h;cases h
 | succ far =>
  rw[rightE_open]at h;simp only[Bool.and_eq_true,decide_eq_true_eq]at h;have h1:=h.1;unfold wantsE at h1;repeat' split at h1
  all_goals omega
theorem len1 {l:List ET} (h:l.length=1):∃ a,l=[a]:=by
 match l,h with
 | [a],_=>exact⟨a,rfl⟩
theorem len2 {l:List ET} (h:l.length=2):∃ a b,l=[a,b]:=by
 match l,h with
 | [a,b],_=>exact⟨a,b,rfl⟩
theorem len3 {l:List ET} (h:l.length=3):∃ a b c,l=[a,b,c]:=by
 match l,h with
 | [a,b,c],_=>exact⟨a,b,c,rfl⟩
theorem textE_1 {x:ET} (h:x.kind=1):textE x=textC x.v:=by
 obtain⟨k,s,v,ns,ks⟩:=x;have h:k=1:=h;subst h;rw[textE];rfl
theorem textE_2 {x:ET} (h:x.kind=2):textE x=x.str:=by
 obtain⟨k,s,v,ns,ks⟩:=x;have h:k=2:=h;subst h;rw[textE];rfl
theorem textE_3 {x:ET} (h:x.kind=3) (hn:x.kids.length=1):textE x=allT [[40,45],[41]] (textEL x.kids):=by
 obtain⟨k,s,v,ns,ks⟩:=x;have h:k=3:=h;subst h;obtain⟨a,ha⟩:=len1 hn;have ha:ks=[a]:=ha;subst ha;rw[textE];simp[textEL,allT,ET.kids]
theorem textE_4 {x:ET} (h:x.kind=4) (hn:x.kids.length=1):textE x=allT [[40,33],[41]] (textEL x.kids):=by
 obtain⟨k,s,v,ns,ks⟩:=x;have h:k=4:=h;subst h;obtain⟨a,ha⟩:=len1 hn;have ha:ks=[a]:=ha;subst ha;rw[textE];simp[textEL,allT,ET.kids]
theorem textE_15 {x:ET} (h:x.kind=15) (hn:x.kids.length=3):textE x=allT [[40],[63],[58],[41]] (textEL x.kids):=by
 obtain⟨k,s,v,ns,ks⟩:=x;have h:k=15:=h;subst h;obtain⟨a,b,c,ha⟩:=len3 hn;have ha:ks=[a,b,c]:=ha;subst ha;rw[textE];simp[textEL,allT,ET.kids]
theorem textE_16 {x:ET} (h:x.kind=16):textE x=[91]++rowJ false true x.names (textEL x.kids)++[93]:=by
 obtain⟨k,s,v,ns,ks⟩:=x;have h:k=16:=h;subst h;rw[textE];rfl
theorem textE_17 {x:ET} (h:x.kind=17):textE x=[123]++rowJ true true x.names (textEL x.kids)++[125]:=by
 obtain⟨k,s,v,ns,ks⟩:=x;have h:k=17:=h;subst h;rw[textE];rfl
theorem textE_18 {x:ET} (h:x.kind=18) (hn:x.kids.length=1):textE x=firstT (x.kids.getD 0 noET).kind (textE (x.kids.getD 0 noET))++([46]++x.str):=by
 obtain⟨k,s,v,ns,ks⟩:=x;have h:k=18:=h;subst h;obtain⟨a,ha⟩:=len1 hn;have ha:ks=[a]:=ha;subst ha;rw[textE];simp[textEL,ET.kids,ET.str]
theorem textE_19 {x:ET} (h:x.kind=19) (hn:x.kids.length=2):textE x=firstT (x.kids.getD 0 noET).kind (textE (x.kids.getD 0 noET))++([91]++(textE (x.kids.getD 1 noET)++[93])):=by
 obtain⟨k,s,v,ns,ks⟩:=x;have h:k=19:=h;subst h;obtain⟨a,b,ha⟩:=len2 hn;have ha:ks=[a,b]:=ha;subst ha;rw[textE];simp[textEL,ET.kids]
theorem textE_c {x:ET} (h1:20≤x.kind) (h2:x.kind≤23) (hn:x.kids.length=1):textE x=allT [callsB.getD (x.kind - 20).toNat []++[40],[41]] (textEL x.kids):=by
 obtain⟨k,s,v,ns,ks⟩:=x;have h1:20≤k:=h1;have h2:k≤23:=h2;obtain⟨a,ha⟩:=len1 hn;have ha:ks=[a]:=ha;subst ha;rw[textE];simp only[ET.kind,ET.kids];rw[if_neg (by omega),if_neg (by omega),if_neg (by omega),if_neg (by omega),if_neg (by omega),if_neg (by omega),if_neg (by omega),if_neg (by omega),if_neg (by omega),if_pos ⟨h1,h2⟩];simp[textEL,allT]
theorem textE_s {x:ET} (h1:5≤x.kind) (h2:x.kind≤14) (hn:x.kids.length=2):textE x=allT [[40],signsB.getD (x.kind - 5).toNat [],[41]] (textEL x.kids):=by
 obtain⟨k,s,v,ns,ks⟩:=x;have h1:5≤k:=h1;have h2:k≤14:=h2;obtain⟨a,b,ha⟩:=len2 hn;have ha:ks=[a,b]:=ha;subst ha;rw[textE];simp only[ET.kind,ET.kids];rw[if_neg (by omega),if_neg (by omega),if_neg (by omega),if_neg (by omega),if_neg (by omega),if_neg (by omega),if_neg (by omega),if_neg (by omega),if_neg (by omega),if_neg (by omega)];simp[textEL,allT]
theorem cell_row {w:World} {G i:Nat} {cs:Array Value} {T:TypeId} {v:Value} (h:w.heap[G]?=some (.cells cs T (0,0))) (hi:cs[i]?=some v):w.cell? ⟨G,i,none⟩=some v:=by rw[zc h,hi]
/-- a row of texts, new -/
def NewRow (cs:Array Value) (n:Nat) (w:World) (e:Ending) (w':World):Prop:=∃ G,e=.returned (.slice (some ⟨G,0,none⟩) n n)∧w'.heap[G]?=some (.cells cs 9 (0,0))∧Below w.heap.size w w'
theorem pcalls_any (w:World):Calls Tryz.prog 49 #[] w (NewRow #[.string ⟨#[108,101,110]⟩,.string ⟨#[102,108,111,97,116]⟩,.string ⟨#[105,110,116]⟩,.string ⟨#[115,116,114]⟩] 4 w):=by
 have hB:=(Below.refl w.heap.size w).alloc (Nat.le_refl _) (.cells #[.string ⟨#[108,101,110]⟩,.string ⟨#[102,108,111,97,116]⟩,.string ⟨#[105,110,116]⟩,.string ⟨#[115,116,114]⟩] 9);have hn:=heap_alloc_new w (.cells #[.string ⟨#[108,101,110]⟩,.string ⟨#[102,108,111,97,116]⟩,.string ⟨#[105,110,116]⟩,.string ⟨#[115,116,114]⟩] 9);go_in;go_wp2_with fail
 go_ret;exact⟨_,rfl,hn,hB⟩
theorem psigns_any (w:World):Calls Tryz.prog 50 #[] w (NewRow #[.string ⟨#[43]⟩,.string ⟨#[45]⟩,.string ⟨#[42]⟩,.string ⟨#[47]⟩,.string ⟨#[37]⟩,.string ⟨#[61,61]⟩,.string ⟨#[60]⟩,.string ⟨#[60,61]⟩,.string ⟨#[38,38]⟩,.string ⟨#[124,124]⟩] 10 w):=by
 have hB:=(Below.refl w.heap.size w).alloc (Nat.le_refl _) (.cells #[.string ⟨#[43]⟩,.string ⟨#[45]⟩,.string ⟨#[42]⟩,.string ⟨#[47]⟩,.string ⟨#[37]⟩,.string ⟨#[61,61]⟩,.string ⟨#[60]⟩,.string ⟨#[60,61]⟩,.string ⟨#[38,38]⟩,.string ⟨#[124,124]⟩] 9);have hn:=heap_alloc_new w (.cells #[.string ⟨#[43]⟩,.string ⟨#[45]⟩,.string ⟨#[42]⟩,.string ⟨#[47]⟩,.string ⟨#[37]⟩,.string ⟨#[61,61]⟩,.string ⟨#[60]⟩,.string ⟨#[60,61]⟩,.string ⟨#[38,38]⟩,.string ⟨#[124,124]⟩] 9);go_in;go_wp2_with fail
 go_ret;exact⟨_,rfl,hn,hB⟩
/-- all, at texts that are laid just ahead of it -/
theorem pall_new (d:Nat) (ih:PE d) (x:ET) (far g o B b:Nat) (ts:List (List UInt8)) (ob:List UInt8) (u w W:World) (cs:Array Value) (hcs:cs=(ts.map fun l=>Value.string ⟨l.toArray⟩).toArray) (hl:ob.length+(allT ts (textEL x.kids)).length≤90000000) (hN:ts.length≤20) (N:Nat) (hNN:ts.length=N) (hu:u.heap.size≤B) (huw:Below u.heap.size u w) (hW:Below w.heap.size w W) (hE:Env u) (hb:Bld 54 B b ob w)
  (hx:PtrE u (d+1) x g o) (hr:rightEL x.kids far=true) :
  Calls Tryz.prog 45 #[.pointer (some ⟨b,0,none⟩),.pointer (some ⟨g,o,none⟩),.slice (some ⟨W.heap.size,0,none⟩) N N] (W.alloc (.cells cs 9)) fun e w'=>e=.returned (.tuple #[])∧Bld 54 B b (ob++allT ts (textEL x.kids)) w'∧Wrote B b w w':=by
 subst hNN;have hbl:=(hb.lt).1;have hA:Below W.heap.size W (W.alloc (.cells cs 9)):=(Below.refl _ _).alloc (Nat.le_refl _) _;have hwA:=hW.trans (hA.mono hW.size);have hne:W.heap.size≠b:=by have:=hW.size;omega
 have hnew:=heap_alloc_new W (.cells cs 9);refine(pall_any d ih x far g o B b W.heap.size ts ob u _ hl hN hu (huw.trans (hwA.mono huw.size)) hE (hb.below hwA) hx hr ?_ ts.length).mono ?_
 ·intro w' hw i hi;have h1:=hw.block hnew hne (by decide);rw[zc h1,hcs];simp[List.getD,hi]
 ·rintro e w' ⟨h1,h2,h3⟩;exact⟨h1,h2,((Wrote.refl B b w).below hb.1 hwA).trans h3⟩
theorem pexpr_1 (d:Nat) (_ih:PE d) (x:ET) (far g o B b:Nat) (ob:List UInt8) (u w:World) (hl:ob.length+(textE x).length≤90000000) (_hu:u.heap.size≤B) (huw:Below u.heap.size u w) (hE:Env u) (hb:Bld 54 B b ob w) (hx:PtrE u (d+1) x g o) (hr:rightE x far=true) (hk:x.kind=1) :
  Calls Tryz.prog 22 #[.pointer (some ⟨b,0,none⟩),.pointer (some ⟨g,o,none⟩)] w fun e w'=>e=.returned (.tuple #[])∧Bld 54 B b (ob++textE x) w'∧Wrote B b w w':=by
 obtain⟨hkn,hnk,hcv,hkr⟩:=right_parts hr;obtain⟨qn,qi,pn,p,cap,hx'⟩:=hx.open
 have hg:=hx'.lt;clear hkn hnk hkr;have x0:∀ w',Below u.heap.size u w'→w'.cell? ⟨g,o,none⟩=some (.int .i64 1):=fun w' h=>by rw[←hk];exact(h.cell (p:=⟨g,o,none⟩) hg).trans hx'.c0
 have y0:=x0 w huw;have hT:textE x=textC x.v:=textE_1 hk;rw[hT]at hl;have x2:∀ w',Below u.heap.size u w'→w'.cell? ⟨g,o+2,none⟩=some (.int .i64 x.v.kind)∧w'.cell? ⟨g,o+3,none⟩=some (.int .i64 x.v.num)∧w'.cell? ⟨g,o+4,none⟩=some (.float .f64 x.v.flt)∧w'.cell? ⟨g,o+5,none⟩=some (.string ⟨x.v.str.toArray⟩)∧w'.cell? ⟨g,o+6,none⟩=some qn∧w'.cell? ⟨g,o+7,none⟩=some qi:=fun w' h=>⟨(h.cell (p:=⟨g,o+2,none⟩) hg).trans hx'.c2,(h.cell (p:=⟨g,o+3,none⟩) hg).trans hx'.c3,(h.cell (p:=⟨g,o+4,none⟩) hg).trans hx'.c4,(h.cell (p:=⟨g,o+5,none⟩) hg).trans hx'.c5,(h.cell (p:=⟨g,o+6,none⟩) hg).trans hx'.c6,(h.cell (p:=⟨g,o+7,none⟩) hg).trans hx'.c7⟩
 obtain⟨z2,z3,z4,z5,z6,z7⟩:=x2 w huw;obtain⟨dv,hvv⟩:=hx'.val;rw[if_pos hk]at hcv;have HV:=zh (vText_any dv x.v _ w (hE.below huw) (hvv.kept huw) hcv);have HW:=zh (fun w' (hbw:Below w.heap.size w w')=>(hb.below hbw).writeS bt_pp (textC x.v) (by omega));have HT:=zh hT;have hBS:=hb.1;clear hT hl hb hk x0 hx' hx x2 hvv hcv;go_in;go_wp2_with fail
 refine(HV.out).mono ?_;rintro e w3 ⟨rfl,hb3⟩;go_wp2_with fail
 refine(HW.out _ hb3).mono ?_;rintro e w4 ⟨rfl,hb4,hw4⟩;go_wp2_with fail
 go_end0;exact⟨rfl,by rw[HT.out];exact hb4,((Wrote.refl B b w).below hBS hb3).trans hw4⟩
theorem pexpr_2 (d:Nat) (_ih:PE d) (x:ET) (far g o B b:Nat) (ob:List UInt8) (u w:World) (hl:ob.length+(textE x).length≤90000000) (hu:u.heap.size≤B) (huw:Below u.heap.size u w) (_hE:Env u) (hb:Bld 54 B b ob w) (hx:PtrE u (d+1) x g o) (hr:rightE x far=true) (hk:x.kind=2) :
  Calls Tryz.prog 22 #[.pointer (some ⟨b,0,none⟩),.pointer (some ⟨g,o,none⟩)] w fun e w'=>e=.returned (.tuple #[])∧Bld 54 B b (ob++textE x) w'∧Wrote B b w w':=by
 obtain⟨hkn,hnk,hcv,hkr⟩:=right_parts hr;obtain⟨qn,qi,pn,p,cap,hx'⟩:=hx.open
 have hg:=hx'.lt;clear hkn hnk hcv hkr;have x0:∀ w',Below u.heap.size u w'→w'.cell? ⟨g,o,none⟩=some (.int .i64 2):=fun w' h=>by rw[←hk];exact(h.cell (p:=⟨g,o,none⟩) hg).trans hx'.c0
 have y0:=x0 w huw;have hT:textE x=x.str:=textE_2 hk;rw[hT]at hl;have x1:∀ w',Below u.heap.size u w'→w'.cell? ⟨g,o+1,none⟩=some (.string ⟨x.str.toArray⟩):=fun w' h=>(h.cell (p:=⟨g,o+1,none⟩) hg).trans hx'.c1
 have y1:=x1 w huw;have HX1:=zh (fun w' (hw:Wrote B b w w')=>x1 w' (below_wrote hu huw hw));have HW:=zh (fun w' (hbw:Below w.heap.size w w')=>(hb.below hbw).writeS bt_pp x.str (by omega));have HT:=zh hT;clear hT hl hb hk x0 hx' hx x1;go_in;go_wp2_with fail
 go_region_held3 (fun w'=>w'.cell? ⟨g,o+1,none⟩=some (.string ⟨x.str.toArray⟩)) (first|with_reducible exact y1|with_reducible exact HX1.out _ (wrote_drew hw2)|go_keep) ((go_at_call 44;(with_reducible refine(HW.out _ (Below.refl _ _).drew).mono ?_);rintro e u2 ⟨rfl,hd2,hw2⟩))
 go_wp2_with fail
 go_end0;exact⟨rfl,by rw[HT.out];exact hd2,wrote_drew hw2⟩
theorem pexpr_3 (d:Nat) (ih:PE d) (x:ET) (far g o B b:Nat) (ob:List UInt8) (u w:World) (hl:ob.length+(textE x).length≤90000000) (hu:u.heap.size≤B) (huw:Below u.heap.size u w) (hE:Env u) (hb:Bld 54 B b ob w) (hx:PtrE u (d+1) x g o) (hr:rightE x far=true) (hk:x.kind=3) :
  Calls Tryz.prog 22 #[.pointer (some ⟨b,0,none⟩),.pointer (some ⟨g,o,none⟩)] w fun e w'=>e=.returned (.tuple #[])∧Bld 54 B b (ob++textE x) w'∧Wrote B b w w':=by
 obtain⟨hkn,hnk,hcv,hkr⟩:=right_parts hr;have hkn:=hkn 1 (by rw[hk];decide);obtain⟨qn,qi,pn,p,cap,hx'⟩:=hx.open
 have hg:=hx'.lt;clear hcv hnk;have x0:∀ w',Below u.heap.size u w'→w'.cell? ⟨g,o,none⟩=some (.int .i64 3):=fun w' h=>by rw[←hk];exact(h.cell (p:=⟨g,o,none⟩) hg).trans hx'.c0
 have y0:=x0 w huw;have hT:textE x=allT [[40,45],[41]] (textEL x.kids):=textE_3 hk hkn;rw[hT]at hl;have HA:=zh (pall_new d ih x (far - 1) g o B b [[40,45],[41]] ob u w w #[.string ⟨#[40,45]⟩,.string ⟨#[41]⟩] rfl hl (by simp) 2 rfl hu huw (Below.refl _ _) hE hb hx hkr);have HT:=zh hT;clear hT hl hb hk x0 hx' hx;go_in;go_wp2_with fail
 refine(HA.out).mono ?_;rintro e w3 ⟨rfl,hb3,hw3⟩;go_wp2_with fail
 go_end0;exact⟨rfl,by rw[HT.out];exact hb3,hw3⟩
theorem pexpr_4 (d:Nat) (ih:PE d) (x:ET) (far g o B b:Nat) (ob:List UInt8) (u w:World) (hl:ob.length+(textE x).length≤90000000) (hu:u.heap.size≤B) (huw:Below u.heap.size u w) (hE:Env u) (hb:Bld 54 B b ob w) (hx:PtrE u (d+1) x g o) (hr:rightE x far=true) (hk:x.kind=4) :
  Calls Tryz.prog 22 #[.pointer (some ⟨b,0,none⟩),.pointer (some ⟨g,o,none⟩)] w fun e w'=>e=.returned (.tuple #[])∧Bld 54 B b (ob++textE x) w'∧Wrote B b w w':=by
 obtain⟨hkn,hnk,hcv,hkr⟩:=right_parts hr;have hkn:=hkn 1 (by rw[hk];decide);obtain⟨qn,qi,pn,p,cap,hx'⟩:=hx.open
 have hg:=hx'.lt;clear hcv hnk;have x0:∀ w',Below u.heap.size u w'→w'.cell? ⟨g,o,none⟩=some (.int .i64 4):=fun w' h=>by rw[←hk];exact(h.cell (p:=⟨g,o,none⟩) hg).trans hx'.c0
 have y0:=x0 w huw;have hT:textE x=allT [[40,33],[41]] (textEL x.kids):=textE_4 hk hkn;rw[hT]at hl;have HA:=zh (pall_new d ih x (far - 1) g o B b [[40,33],[41]] ob u w w #[.string ⟨#[40,33]⟩,.string ⟨#[41]⟩] rfl hl (by simp) 2 rfl hu huw (Below.refl _ _) hE hb hx hkr);have HT:=zh hT;clear hT hl hb hk x0 hx' hx;go_in;go_wp2_with fail
 refine(HA.out).mono ?_;rintro e w3 ⟨rfl,hb3,hw3⟩;go_wp2_with fail
 go_end0;exact⟨rfl,by rw[HT.out];exact hb3,hw3⟩
theorem pexpr_5 (d:Nat) (ih:PE d) (x:ET) (far g o B b:Nat) (ob:List UInt8) (u w:World) (hl:ob.length+(textE x).length≤90000000) (hu:u.heap.size≤B) (huw:Below u.heap.size u w) (hE:Env u) (hb:Bld 54 B b ob w) (hx:PtrE u (d+1) x g o) (hr:rightE x far=true) (hk:x.kind=5) :
  Calls Tryz.prog 22 #[.pointer (some ⟨b,0,none⟩),.pointer (some ⟨g,o,none⟩)] w fun e w'=>e=.returned (.tuple #[])∧Bld 54 B b (ob++textE x) w'∧Wrote B b w w':=by
 obtain⟨hkn,hnk,hcv,hkr⟩:=right_parts hr;have hkn:=hkn 2 (by rw[hk];decide);obtain⟨qn,qi,pn,p,cap,hx'⟩:=hx.open
 have hg:=hx'.lt;clear hcv hnk;have x0:∀ w',Below u.heap.size u w'→w'.cell? ⟨g,o,none⟩=some (.int .i64 5):=fun w' h=>by rw[←hk];exact(h.cell (p:=⟨g,o,none⟩) hg).trans hx'.c0
 have y0:=x0 w huw;have hT:textE x=allT [[40],[43],[41]] (textEL x.kids):=(textE_s (by omega) (by omega) hkn).trans (by rw[hk];rfl);rw[hT]at hl;have HX0:=zh (fun w' (hw:Below w.heap.size w w')=>x0 w' (huw.trans (hw.mono huw.size)));have HX1:=zh (fun w' (hw:Wrote B b w w')=>x0 w' (below_wrote hu huw hw));have HA:=zh (fun W (hW:Below w.heap.size w W)=>pall_new d ih x (far - 1) g o B b [[40],[43],[41]] ob u w W #[.string ⟨#[40]⟩,.string ⟨#[43]⟩,.string ⟨#[41]⟩] rfl hl (by simp) 3 rfl hu huw hW hE hb hx hkr);have HC:=zh (fun w=>psigns_any w);have HT:=zh hT;have hwr:IntKind.i64.wrap 0=0:=by decide
 clear hT hl hb hk x0 hx' hx;go_in;go_wp2_with fail
 go_region_law (first
  | (go_simp;go_at_call 50;(with_reducible refine(HC.out _).mono ?_);rintro e u1 ⟨G,rfl,hG,hb1⟩;have cG:u1.cell? ⟨G,0,none⟩=some (.string ⟨#[43]⟩):=cell_row hG rfl;have y1:=HX0.out _ (undrew hb1);dsimp only)
  | (go_at_call 50;(with_reducible refine(HC.out _).mono ?_);rintro e u1 ⟨G,rfl,hG,hb1⟩;have cG:u1.cell? ⟨G,0,none⟩=some (.string ⟨#[43]⟩):=cell_row hG rfl;have y1:=HX0.out _ (undrew hb1);dsimp only)
  | (go_simp;go_at_call 45;(with_reducible refine(HA.out _ (undrew hb1)).mono ?_);rintro e u2 ⟨rfl,hd2,hw2⟩;dsimp only)
  | (go_at_call 45;(with_reducible refine(HA.out _ (undrew hb1)).mono ?_);rintro e u2 ⟨rfl,hd2,hw2⟩;dsimp only))
 all_goals
  go_wp2_with fail
  go_end0;exact⟨rfl,by rw[HT.out];exact hd2,hw2⟩
theorem pexpr_6 (d:Nat) (ih:PE d) (x:ET) (far g o B b:Nat) (ob:List UInt8) (u w:World) (hl:ob.length+(textE x).length≤90000000) (hu:u.heap.size≤B) (huw:Below u.heap.size u w) (hE:Env u) (hb:Bld 54 B b ob w) (hx:PtrE u (d+1) x g o) (hr:rightE x far=true) (hk:x.kind=6) :
  Calls Tryz.prog 22 #[.pointer (some ⟨b,0,none⟩),.pointer (some ⟨g,o,none⟩)] w fun e w'=>e=.returned (.tuple #[])∧Bld 54 B b (ob++textE x) w'∧Wrote B b w w':=by
 obtain⟨hkn,hnk,hcv,hkr⟩:=right_parts hr;have hkn:=hkn 2 (by rw[hk];decide);obtain⟨qn,qi,pn,p,cap,hx'⟩:=hx.open
 have hg:=hx'.lt;clear hcv hnk;have x0:∀ w',Below u.heap.size u w'→w'.cell? ⟨g,o,none⟩=some (.int .i64 6):=fun w' h=>by rw[←hk];exact(h.cell (p:=⟨g,o,none⟩) hg).trans hx'.c0
 have y0:=x0 w huw;have hT:textE x=allT [[40],[45],[41]] (textEL x.kids):=(textE_s (by omega) (by omega) hkn).trans (by rw[hk];rfl);rw[hT]at hl;have HX0:=zh (fun w' (hw:Below w.heap.size w w')=>x0 w' (huw.trans (hw.mono huw.size)));have HX1:=zh (fun w' (hw:Wrote B b w w')=>x0 w' (below_wrote hu huw hw));have HA:=zh (fun W (hW:Below w.heap.size w W)=>pall_new d ih x (far - 1) g o B b [[40],[45],[41]] ob u w W #[.string ⟨#[40]⟩,.string ⟨#[45]⟩,.string ⟨#[41]⟩] rfl hl (by simp) 3 rfl hu huw hW hE hb hx hkr);have HC:=zh (fun w=>psigns_any w);have HT:=zh hT;have hwr:IntKind.i64.wrap 1=1:=by decide
 clear hT hl hb hk x0 hx' hx;go_in;go_wp2_with fail
 go_region_law (first
  | (go_simp;go_at_call 50;(with_reducible refine(HC.out _).mono ?_);rintro e u1 ⟨G,rfl,hG,hb1⟩;have cG:u1.cell? ⟨G,1,none⟩=some (.string ⟨#[45]⟩):=cell_row hG rfl;have y1:=HX0.out _ (undrew hb1);dsimp only)
  | (go_at_call 50;(with_reducible refine(HC.out _).mono ?_);rintro e u1 ⟨G,rfl,hG,hb1⟩;have cG:u1.cell? ⟨G,1,none⟩=some (.string ⟨#[45]⟩):=cell_row hG rfl;have y1:=HX0.out _ (undrew hb1);dsimp only)
  | (go_simp;go_at_call 45;(with_reducible refine(HA.out _ (undrew hb1)).mono ?_);rintro e u2 ⟨rfl,hd2,hw2⟩;dsimp only)
  | (go_at_call 45;(with_reducible refine(HA.out _ (undrew hb1)).mono ?_);rintro e u2 ⟨rfl,hd2,hw2⟩;dsimp only))
 all_goals
  go_wp2_with fail
  go_end0;exact⟨rfl,by rw[HT.out];exact hd2,hw2⟩
theorem pexpr_7 (d:Nat) (ih:PE d) (x:ET) (far g o B b:Nat) (ob:List UInt8) (u w:World) (hl:ob.length+(textE x).length≤90000000) (hu:u.heap.size≤B) (huw:Below u.heap.size u w) (hE:Env u) (hb:Bld 54 B b ob w) (hx:PtrE u (d+1) x g o) (hr:rightE x far=true) (hk:x.kind=7) :
  Calls Tryz.prog 22 #[.pointer (some ⟨b,0,none⟩),.pointer (some ⟨g,o,none⟩)] w fun e w'=>e=.returned (.tuple #[])∧Bld 54 B b (ob++textE x) w'∧Wrote B b w w':=by
 obtain⟨hkn,hnk,hcv,hkr⟩:=right_parts hr;have hkn:=hkn 2 (by rw[hk];decide);obtain⟨qn,qi,pn,p,cap,hx'⟩:=hx.open
 have hg:=hx'.lt;clear hcv hnk;have x0:∀ w',Below u.heap.size u w'→w'.cell? ⟨g,o,none⟩=some (.int .i64 7):=fun w' h=>by rw[←hk];exact(h.cell (p:=⟨g,o,none⟩) hg).trans hx'.c0
 have y0:=x0 w huw;have hT:textE x=allT [[40],[42],[41]] (textEL x.kids):=(textE_s (by omega) (by omega) hkn).trans (by rw[hk];rfl);rw[hT]at hl;have HX0:=zh (fun w' (hw:Below w.heap.size w w')=>x0 w' (huw.trans (hw.mono huw.size)));have HX1:=zh (fun w' (hw:Wrote B b w w')=>x0 w' (below_wrote hu huw hw));have HA:=zh (fun W (hW:Below w.heap.size w W)=>pall_new d ih x (far - 1) g o B b [[40],[42],[41]] ob u w W #[.string ⟨#[40]⟩,.string ⟨#[42]⟩,.string ⟨#[41]⟩] rfl hl (by simp) 3 rfl hu huw hW hE hb hx hkr);have HC:=zh (fun w=>psigns_any w);have HT:=zh hT;have hwr:IntKind.i64.wrap 2=2:=by decide
 clear hT hl hb hk x0 hx' hx;go_in;go_wp2_with fail
 go_region_law (first
  | (go_simp;go_at_call 50;(with_reducible refine(HC.out _).mono ?_);rintro e u1 ⟨G,rfl,hG,hb1⟩;have cG:u1.cell? ⟨G,2,none⟩=some (.string ⟨#[42]⟩):=cell_row hG rfl;have y1:=HX0.out _ (undrew hb1);dsimp only)
  | (go_at_call 50;(with_reducible refine(HC.out _).mono ?_);rintro e u1 ⟨G,rfl,hG,hb1⟩;have cG:u1.cell? ⟨G,2,none⟩=some (.string ⟨#[42]⟩):=cell_row hG rfl;have y1:=HX0.out _ (undrew hb1);dsimp only)
  | (go_simp;go_at_call 45;(with_reducible refine(HA.out _ (undrew hb1)).mono ?_);rintro e u2 ⟨rfl,hd2,hw2⟩;dsimp only)
  | (go_at_call 45;(with_reducible refine(HA.out _ (undrew hb1)).mono ?_);rintro e u2 ⟨rfl,hd2,hw2⟩;dsimp only))
 all_goals
  go_wp2_with fail
  go_end0;exact⟨rfl,by rw[HT.out];exact hd2,hw2⟩
theorem pexpr_8 (d:Nat) (ih:PE d) (x:ET) (far g o B b:Nat) (ob:List UInt8) (u w:World) (hl:ob.length+(textE x).length≤90000000) (hu:u.heap.size≤B) (huw:Below u.heap.size u w) (hE:Env u) (hb:Bld 54 B b ob w) (hx:PtrE u (d+1) x g o) (hr:rightE x far=true) (hk:x.kind=8) :
  Calls Tryz.prog 22 #[.pointer (some ⟨b,0,none⟩),.pointer (some ⟨g,o,none⟩)] w fun e w'=>e=.returned (.tuple #[])∧Bld 54 B b (ob++textE x) w'∧Wrote B b w w':=by
 obtain⟨hkn,hnk,hcv,hkr⟩:=right_parts hr;have hkn:=hkn 2 (by rw[hk];decide);obtain⟨qn,qi,pn,p,cap,hx'⟩:=hx.open
 have hg:=hx'.lt;clear hcv hnk;have x0:∀ w',Below u.heap.size u w'→w'.cell? ⟨g,o,none⟩=some (.int .i64 8):=fun w' h=>by rw[←hk];exact(h.cell (p:=⟨g,o,none⟩) hg).trans hx'.c0
 have y0:=x0 w huw;have hT:textE x=allT [[40],[47],[41]] (textEL x.kids):=(textE_s (by omega) (by omega) hkn).trans (by rw[hk];rfl);rw[hT]at hl;have HX0:=zh (fun w' (hw:Below w.heap.size w w')=>x0 w' (huw.trans (hw.mono huw.size)));have HX1:=zh (fun w' (hw:Wrote B b w w')=>x0 w' (below_wrote hu huw hw));have HA:=zh (fun W (hW:Below w.heap.size w W)=>pall_new d ih x (far - 1) g o B b [[40],[47],[41]] ob u w W #[.string ⟨#[40]⟩,.string ⟨#[47]⟩,.string ⟨#[41]⟩] rfl hl (by simp) 3 rfl hu huw hW hE hb hx hkr);have HC:=zh (fun w=>psigns_any w);have HT:=zh hT;have hwr:IntKind.i64.wrap 3=3:=by decide
 clear hT hl hb hk x0 hx' hx;go_in;go_wp2_with fail
 go_region_law (first
  | (go_simp;go_at_call 50;(with_reducible refine(HC.out _).mono ?_);rintro e u1 ⟨G,rfl,hG,hb1⟩;have cG:u1.cell? ⟨G,3,none⟩=some (.string ⟨#[47]⟩):=cell_row hG rfl;have y1:=HX0.out _ (undrew hb1);dsimp only)
  | (go_at_call 50;(with_reducible refine(HC.out _).mono ?_);rintro e u1 ⟨G,rfl,hG,hb1⟩;have cG:u1.cell? ⟨G,3,none⟩=some (.string ⟨#[47]⟩):=cell_row hG rfl;have y1:=HX0.out _ (undrew hb1);dsimp only)
  | (go_simp;go_at_call 45;(with_reducible refine(HA.out _ (undrew hb1)).mono ?_);rintro e u2 ⟨rfl,hd2,hw2⟩;dsimp only)
  | (go_at_call 45;(with_reducible refine(HA.out _ (undrew hb1)).mono ?_);rintro e u2 ⟨rfl,hd2,hw2⟩;dsimp only))
 all_goals
  go_wp2_with fail
  go_end0;exact⟨rfl,by rw[HT.out];exact hd2,hw2⟩
theorem pexpr_9 (d:Nat) (ih:PE d) (x:ET) (far g o B b:Nat) (ob:List UInt8) (u w:World) (hl:ob.length+(textE x).length≤90000000) (hu:u.heap.size≤B) (huw:Below u.heap.size u w) (hE:Env u) (hb:Bld 54 B b ob w) (hx:PtrE u (d+1) x g o) (hr:rightE x far=true) (hk:x.kind=9) :
  Calls Tryz.prog 22 #[.pointer (some ⟨b,0,none⟩),.pointer (some ⟨g,o,none⟩)] w fun e w'=>e=.returned (.tuple #[])∧Bld 54 B b (ob++textE x) w'∧Wrote B b w w':=by
 obtain⟨hkn,hnk,hcv,hkr⟩:=right_parts hr;have hkn:=hkn 2 (by rw[hk];decide);obtain⟨qn,qi,pn,p,cap,hx'⟩:=hx.open
 have hg:=hx'.lt;clear hcv hnk;have x0:∀ w',Below u.heap.size u w'→w'.cell? ⟨g,o,none⟩=some (.int .i64 9):=fun w' h=>by rw[←hk];exact(h.cell (p:=⟨g,o,none⟩) hg).trans hx'.c0
 have y0:=x0 w huw;have hT:textE x=allT [[40],[37],[41]] (textEL x.kids):=(textE_s (by omega) (by omega) hkn).trans (by rw[hk];rfl);rw[hT]at hl;have HX0:=zh (fun w' (hw:Below w.heap.size w w')=>x0 w' (huw.trans (hw.mono huw.size)));have HX1:=zh (fun w' (hw:Wrote B b w w')=>x0 w' (below_wrote hu huw hw));have HA:=zh (fun W (hW:Below w.heap.size w W)=>pall_new d ih x (far - 1) g o B b [[40],[37],[41]] ob u w W #[.string ⟨#[40]⟩,.string ⟨#[37]⟩,.string ⟨#[41]⟩] rfl hl (by simp) 3 rfl hu huw hW hE hb hx hkr);have HC:=zh (fun w=>psigns_any w);have HT:=zh hT;have hwr:IntKind.i64.wrap 4=4:=by decide
 clear hT hl hb hk x0 hx' hx;go_in;go_wp2_with fail
 go_region_law (first
  | (go_simp;go_at_call 50;(with_reducible refine(HC.out _).mono ?_);rintro e u1 ⟨G,rfl,hG,hb1⟩;have cG:u1.cell? ⟨G,4,none⟩=some (.string ⟨#[37]⟩):=cell_row hG rfl;have y1:=HX0.out _ (undrew hb1);dsimp only)
  | (go_at_call 50;(with_reducible refine(HC.out _).mono ?_);rintro e u1 ⟨G,rfl,hG,hb1⟩;have cG:u1.cell? ⟨G,4,none⟩=some (.string ⟨#[37]⟩):=cell_row hG rfl;have y1:=HX0.out _ (undrew hb1);dsimp only)
  | (go_simp;go_at_call 45;(with_reducible refine(HA.out _ (undrew hb1)).mono ?_);rintro e u2 ⟨rfl,hd2,hw2⟩;dsimp only)
  | (go_at_call 45;(with_reducible refine(HA.out _ (undrew hb1)).mono ?_);rintro e u2 ⟨rfl,hd2,hw2⟩;dsimp only))
 all_goals
  go_wp2_with fail
  go_end0;exact⟨rfl,by rw[HT.out];exact hd2,hw2⟩
theorem pexpr_10 (d:Nat) (ih:PE d) (x:ET) (far g o B b:Nat) (ob:List UInt8) (u w:World) (hl:ob.length+(textE x).length≤90000000) (hu:u.heap.size≤B) (huw:Below u.heap.size u w) (hE:Env u) (hb:Bld 54 B b ob w) (hx:PtrE u (d+1) x g o) (hr:rightE x far=true) (hk:x.kind=10) :
  Calls Tryz.prog 22 #[.pointer (some ⟨b,0,none⟩),.pointer (some ⟨g,o,none⟩)] w fun e w'=>e=.returned (.tuple #[])∧Bld 54 B b (ob++textE x) w'∧Wrote B b w w':=by
 obtain⟨hkn,hnk,hcv,hkr⟩:=right_parts hr;have hkn:=hkn 2 (by rw[hk];decide);obtain⟨qn,qi,pn,p,cap,hx'⟩:=hx.open
 have hg:=hx'.lt;clear hcv hnk;have x0:∀ w',Below u.heap.size u w'→w'.cell? ⟨g,o,none⟩=some (.int .i64 10):=fun w' h=>by rw[←hk];exact(h.cell (p:=⟨g,o,none⟩) hg).trans hx'.c0
 have y0:=x0 w huw;have hT:textE x=allT [[40],[61,61],[41]] (textEL x.kids):=(textE_s (by omega) (by omega) hkn).trans (by rw[hk];rfl);rw[hT]at hl;have HX0:=zh (fun w' (hw:Below w.heap.size w w')=>x0 w' (huw.trans (hw.mono huw.size)));have HX1:=zh (fun w' (hw:Wrote B b w w')=>x0 w' (below_wrote hu huw hw));have HA:=zh (fun W (hW:Below w.heap.size w W)=>pall_new d ih x (far - 1) g o B b [[40],[61,61],[41]] ob u w W #[.string ⟨#[40]⟩,.string ⟨#[61,61]⟩,.string ⟨#[41]⟩] rfl hl (by simp) 3 rfl hu huw hW hE hb hx hkr);have HC:=zh (fun w=>psigns_any w);have HT:=zh hT;have hwr:IntKind.i64.wrap 5=5:=by decide
 clear hT hl hb hk x0 hx' hx;go_in;go_wp2_with fail
 go_region_law (first
  | (go_simp;go_at_call 50;(with_reducible refine(HC.out _).mono ?_);rintro e u1 ⟨G,rfl,hG,hb1⟩;have cG:u1.cell? ⟨G,5,none⟩=some (.string ⟨#[61,61]⟩):=cell_row hG rfl;have y1:=HX0.out _ (undrew hb1);dsimp only)
  | (go_at_call 50;(with_reducible refine(HC.out _).mono ?_);rintro e u1 ⟨G,rfl,hG,hb1⟩;have cG:u1.cell? ⟨G,5,none⟩=some (.string ⟨#[61,61]⟩):=cell_row hG rfl;have y1:=HX0.out _ (undrew hb1);dsimp only)
  | (go_simp;go_at_call 45;(with_reducible refine(HA.out _ (undrew hb1)).mono ?_);rintro e u2 ⟨rfl,hd2,hw2⟩;dsimp only)
  | (go_at_call 45;(with_reducible refine(HA.out _ (undrew hb1)).mono ?_);rintro e u2 ⟨rfl,hd2,hw2⟩;dsimp only))
 all_goals
  go_wp2_with fail
  go_end0;exact⟨rfl,by rw[HT.out];exact hd2,hw2⟩
theorem pexpr_11 (d:Nat) (ih:PE d) (x:ET) (far g o B b:Nat) (ob:List UInt8) (u w:World) (hl:ob.length+(textE x).length≤90000000) (hu:u.heap.size≤B) (huw:Below u.heap.size u w) (hE:Env u) (hb:Bld 54 B b ob w) (hx:PtrE u (d+1) x g o) (hr:rightE x far=true) (hk:x.kind=11) :
  Calls Tryz.prog 22 #[.pointer (some ⟨b,0,none⟩),.pointer (some ⟨g,o,none⟩)] w fun e w'=>e=.returned (.tuple #[])∧Bld 54 B b (ob++textE x) w'∧Wrote B b w w':=by
 obtain⟨hkn,hnk,hcv,hkr⟩:=right_parts hr;have hkn:=hkn 2 (by rw[hk];decide);obtain⟨qn,qi,pn,p,cap,hx'⟩:=hx.open
 have hg:=hx'.lt;clear hcv hnk;have x0:∀ w',Below u.heap.size u w'→w'.cell? ⟨g,o,none⟩=some (.int .i64 11):=fun w' h=>by rw[←hk];exact(h.cell (p:=⟨g,o,none⟩) hg).trans hx'.c0
 have y0:=x0 w huw;have hT:textE x=allT [[40],[60],[41]] (textEL x.kids):=(textE_s (by omega) (by omega) hkn).trans (by rw[hk];rfl);rw[hT]at hl;have HX0:=zh (fun w' (hw:Below w.heap.size w w')=>x0 w' (huw.trans (hw.mono huw.size)));have HX1:=zh (fun w' (hw:Wrote B b w w')=>x0 w' (below_wrote hu huw hw));have HA:=zh (fun W (hW:Below w.heap.size w W)=>pall_new d ih x (far - 1) g o B b [[40],[60],[41]] ob u w W #[.string ⟨#[40]⟩,.string ⟨#[60]⟩,.string ⟨#[41]⟩] rfl hl (by simp) 3 rfl hu huw hW hE hb hx hkr);have HC:=zh (fun w=>psigns_any w);have HT:=zh hT;have hwr:IntKind.i64.wrap 6=6:=by decide
 clear hT hl hb hk x0 hx' hx;go_in;go_wp2_with fail
 go_region_law (first
  | (go_simp;go_at_call 50;(with_reducible refine(HC.out _).mono ?_);rintro e u1 ⟨G,rfl,hG,hb1⟩;have cG:u1.cell? ⟨G,6,none⟩=some (.string ⟨#[60]⟩):=cell_row hG rfl;have y1:=HX0.out _ (undrew hb1);dsimp only)
  | (go_at_call 50;(with_reducible refine(HC.out _).mono ?_);rintro e u1 ⟨G,rfl,hG,hb1⟩;have cG:u1.cell? ⟨G,6,none⟩=some (.string ⟨#[60]⟩):=cell_row hG rfl;have y1:=HX0.out _ (undrew hb1);dsimp only)
  | (go_simp;go_at_call 45;(with_reducible refine(HA.out _ (undrew hb1)).mono ?_);rintro e u2 ⟨rfl,hd2,hw2⟩;dsimp only)
  | (go_at_call 45;(with_reducible refine(HA.out _ (undrew hb1)).mono ?_);rintro e u2 ⟨rfl,hd2,hw2⟩;dsimp only))
 all_goals
  go_wp2_with fail
  go_end0;exact⟨rfl,by rw[HT.out];exact hd2,hw2⟩
theorem pexpr_12 (d:Nat) (ih:PE d) (x:ET) (far g o B b:Nat) (ob:List UInt8) (u w:World) (hl:ob.length+(textE x).length≤90000000) (hu:u.heap.size≤B) (huw:Below u.heap.size u w) (hE:Env u) (hb:Bld 54 B b ob w) (hx:PtrE u (d+1) x g o) (hr:rightE x far=true) (hk:x.kind=12) :
  Calls Tryz.prog 22 #[.pointer (some ⟨b,0,none⟩),.pointer (some ⟨g,o,none⟩)] w fun e w'=>e=.returned (.tuple #[])∧Bld 54 B b (ob++textE x) w'∧Wrote B b w w':=by
 obtain⟨hkn,hnk,hcv,hkr⟩:=right_parts hr;have hkn:=hkn 2 (by rw[hk];decide);obtain⟨qn,qi,pn,p,cap,hx'⟩:=hx.open
 have hg:=hx'.lt;clear hcv hnk;have x0:∀ w',Below u.heap.size u w'→w'.cell? ⟨g,o,none⟩=some (.int .i64 12):=fun w' h=>by rw[←hk];exact(h.cell (p:=⟨g,o,none⟩) hg).trans hx'.c0
 have y0:=x0 w huw;have hT:textE x=allT [[40],[60,61],[41]] (textEL x.kids):=(textE_s (by omega) (by omega) hkn).trans (by rw[hk];rfl);rw[hT]at hl;have HX0:=zh (fun w' (hw:Below w.heap.size w w')=>x0 w' (huw.trans (hw.mono huw.size)));have HX1:=zh (fun w' (hw:Wrote B b w w')=>x0 w' (below_wrote hu huw hw));have HA:=zh (fun W (hW:Below w.heap.size w W)=>pall_new d ih x (far - 1) g o B b [[40],[60,61],[41]] ob u w W #[.string ⟨#[40]⟩,.string ⟨#[60,61]⟩,.string ⟨#[41]⟩] rfl hl (by simp) 3 rfl hu huw hW hE hb hx hkr);have HC:=zh (fun w=>psigns_any w);have HT:=zh hT;have hwr:IntKind.i64.wrap 7=7:=by decide
 clear hT hl hb hk x0 hx' hx;go_in;go_wp2_with fail
 go_region_law (first
  | (go_simp;go_at_call 50;(with_reducible refine(HC.out _).mono ?_);rintro e u1 ⟨G,rfl,hG,hb1⟩;have cG:u1.cell? ⟨G,7,none⟩=some (.string ⟨#[60,61]⟩):=cell_row hG rfl;have y1:=HX0.out _ (undrew hb1);dsimp only)
  | (go_at_call 50;(with_reducible refine(HC.out _).mono ?_);rintro e u1 ⟨G,rfl,hG,hb1⟩;have cG:u1.cell? ⟨G,7,none⟩=some (.string ⟨#[60,61]⟩):=cell_row hG rfl;have y1:=HX0.out _ (undrew hb1);dsimp only)
  | (go_simp;go_at_call 45;(with_reducible refine(HA.out _ (undrew hb1)).mono ?_);rintro e u2 ⟨rfl,hd2,hw2⟩;dsimp only)
  | (go_at_call 45;(with_reducible refine(HA.out _ (undrew hb1)).mono ?_);rintro e u2 ⟨rfl,hd2,hw2⟩;dsimp only))
 all_goals
  go_wp2_with fail
  go_end0;exact⟨rfl,by rw[HT.out];exact hd2,hw2⟩
theorem pexpr_13 (d:Nat) (ih:PE d) (x:ET) (far g o B b:Nat) (ob:List UInt8) (u w:World) (hl:ob.length+(textE x).length≤90000000) (hu:u.heap.size≤B) (huw:Below u.heap.size u w) (hE:Env u) (hb:Bld 54 B b ob w) (hx:PtrE u (d+1) x g o) (hr:rightE x far=true) (hk:x.kind=13) :
  Calls Tryz.prog 22 #[.pointer (some ⟨b,0,none⟩),.pointer (some ⟨g,o,none⟩)] w fun e w'=>e=.returned (.tuple #[])∧Bld 54 B b (ob++textE x) w'∧Wrote B b w w':=by
 obtain⟨hkn,hnk,hcv,hkr⟩:=right_parts hr;have hkn:=hkn 2 (by rw[hk];decide);obtain⟨qn,qi,pn,p,cap,hx'⟩:=hx.open
 have hg:=hx'.lt;clear hcv hnk;have x0:∀ w',Below u.heap.size u w'→w'.cell? ⟨g,o,none⟩=some (.int .i64 13):=fun w' h=>by rw[←hk];exact(h.cell (p:=⟨g,o,none⟩) hg).trans hx'.c0
 have y0:=x0 w huw;have hT:textE x=allT [[40],[38,38],[41]] (textEL x.kids):=(textE_s (by omega) (by omega) hkn).trans (by rw[hk];rfl);rw[hT]at hl;have HX0:=zh (fun w' (hw:Below w.heap.size w w')=>x0 w' (huw.trans (hw.mono huw.size)));have HX1:=zh (fun w' (hw:Wrote B b w w')=>x0 w' (below_wrote hu huw hw));have HA:=zh (fun W (hW:Below w.heap.size w W)=>pall_new d ih x (far - 1) g o B b [[40],[38,38],[41]] ob u w W #[.string ⟨#[40]⟩,.string ⟨#[38,38]⟩,.string ⟨#[41]⟩] rfl hl (by simp) 3 rfl hu huw hW hE hb hx hkr);have HC:=zh (fun w=>psigns_any w);have HT:=zh hT;have hwr:IntKind.i64.wrap 8=8:=by decide
 clear hT hl hb hk x0 hx' hx;go_in;go_wp2_with fail
 go_region_law (first
  | (go_simp;go_at_call 50;(with_reducible refine(HC.out _).mono ?_);rintro e u1 ⟨G,rfl,hG,hb1⟩;have cG:u1.cell? ⟨G,8,none⟩=some (.string ⟨#[38,38]⟩):=cell_row hG rfl;have y1:=HX0.out _ (undrew hb1);dsimp only)
  | (go_at_call 50;(with_reducible refine(HC.out _).mono ?_);rintro e u1 ⟨G,rfl,hG,hb1⟩;have cG:u1.cell? ⟨G,8,none⟩=some (.string ⟨#[38,38]⟩):=cell_row hG rfl;have y1:=HX0.out _ (undrew hb1);dsimp only)
  | (go_simp;go_at_call 45;(with_reducible refine(HA.out _ (undrew hb1)).mono ?_);rintro e u2 ⟨rfl,hd2,hw2⟩;dsimp only)
  | (go_at_call 45;(with_reducible refine(HA.out _ (undrew hb1)).mono ?_);rintro e u2 ⟨rfl,hd2,hw2⟩;dsimp only))
 all_goals
  go_wp2_with fail
  go_end0;exact⟨rfl,by rw[HT.out];exact hd2,hw2⟩
theorem pexpr_14 (d:Nat) (ih:PE d) (x:ET) (far g o B b:Nat) (ob:List UInt8) (u w:World) (hl:ob.length+(textE x).length≤90000000) (hu:u.heap.size≤B) (huw:Below u.heap.size u w) (hE:Env u) (hb:Bld 54 B b ob w) (hx:PtrE u (d+1) x g o) (hr:rightE x far=true) (hk:x.kind=14) :
  Calls Tryz.prog 22 #[.pointer (some ⟨b,0,none⟩),.pointer (some ⟨g,o,none⟩)] w fun e w'=>e=.returned (.tuple #[])∧Bld 54 B b (ob++textE x) w'∧Wrote B b w w':=by
 obtain⟨hkn,hnk,hcv,hkr⟩:=right_parts hr;have hkn:=hkn 2 (by rw[hk];decide);obtain⟨qn,qi,pn,p,cap,hx'⟩:=hx.open
 have hg:=hx'.lt;clear hcv hnk;have x0:∀ w',Below u.heap.size u w'→w'.cell? ⟨g,o,none⟩=some (.int .i64 14):=fun w' h=>by rw[←hk];exact(h.cell (p:=⟨g,o,none⟩) hg).trans hx'.c0
 have y0:=x0 w huw;have hT:textE x=allT [[40],[124,124],[41]] (textEL x.kids):=(textE_s (by omega) (by omega) hkn).trans (by rw[hk];rfl);rw[hT]at hl;have HX0:=zh (fun w' (hw:Below w.heap.size w w')=>x0 w' (huw.trans (hw.mono huw.size)));have HX1:=zh (fun w' (hw:Wrote B b w w')=>x0 w' (below_wrote hu huw hw));have HA:=zh (fun W (hW:Below w.heap.size w W)=>pall_new d ih x (far - 1) g o B b [[40],[124,124],[41]] ob u w W #[.string ⟨#[40]⟩,.string ⟨#[124,124]⟩,.string ⟨#[41]⟩] rfl hl (by simp) 3 rfl hu huw hW hE hb hx hkr);have HC:=zh (fun w=>psigns_any w);have HT:=zh hT;have hwr:IntKind.i64.wrap 9=9:=by decide
 clear hT hl hb hk x0 hx' hx;go_in;go_wp2_with fail
 go_region_law (first
  | (go_simp;go_at_call 50;(with_reducible refine(HC.out _).mono ?_);rintro e u1 ⟨G,rfl,hG,hb1⟩;have cG:u1.cell? ⟨G,9,none⟩=some (.string ⟨#[124,124]⟩):=cell_row hG rfl;have y1:=HX0.out _ (undrew hb1);dsimp only)
  | (go_at_call 50;(with_reducible refine(HC.out _).mono ?_);rintro e u1 ⟨G,rfl,hG,hb1⟩;have cG:u1.cell? ⟨G,9,none⟩=some (.string ⟨#[124,124]⟩):=cell_row hG rfl;have y1:=HX0.out _ (undrew hb1);dsimp only)
  | (go_simp;go_at_call 45;(with_reducible refine(HA.out _ (undrew hb1)).mono ?_);rintro e u2 ⟨rfl,hd2,hw2⟩;dsimp only)
  | (go_at_call 45;(with_reducible refine(HA.out _ (undrew hb1)).mono ?_);rintro e u2 ⟨rfl,hd2,hw2⟩;dsimp only))
 all_goals
  go_wp2_with fail
  go_end0;exact⟨rfl,by rw[HT.out];exact hd2,hw2⟩
theorem pexpr_15 (d:Nat) (ih:PE d) (x:ET) (far g o B b:Nat) (ob:List UInt8) (u w:World) (hl:ob.length+(textE x).length≤90000000) (hu:u.heap.size≤B) (huw:Below u.heap.size u w) (hE:Env u) (hb:Bld 54 B b ob w) (hx:PtrE u (d+1) x g o) (hr:rightE x far=true) (hk:x.kind=15) :
  Calls Tryz.prog 22 #[.pointer (some ⟨b,0,none⟩),.pointer (some ⟨g,o,none⟩)] w fun e w'=>e=.returned (.tuple #[])∧Bld 54 B b (ob++textE x) w'∧Wrote B b w w':=by
 obtain⟨hkn,hnk,hcv,hkr⟩:=right_parts hr;have hkn:=hkn 3 (by rw[hk];decide);obtain⟨qn,qi,pn,p,cap,hx'⟩:=hx.open
 have hg:=hx'.lt;clear hcv hnk;have x0:∀ w',Below u.heap.size u w'→w'.cell? ⟨g,o,none⟩=some (.int .i64 15):=fun w' h=>by rw[←hk];exact(h.cell (p:=⟨g,o,none⟩) hg).trans hx'.c0
 have y0:=x0 w huw;have hT:textE x=allT [[40],[63],[58],[41]] (textEL x.kids):=textE_15 hk hkn;rw[hT]at hl;have HA:=zh (pall_new d ih x (far - 1) g o B b [[40],[63],[58],[41]] ob u w w #[.string ⟨#[40]⟩,.string ⟨#[63]⟩,.string ⟨#[58]⟩,.string ⟨#[41]⟩] rfl hl (by simp) 4 rfl hu huw (Below.refl _ _) hE hb hx hkr);have HT:=zh hT;clear hT hl hb hk x0 hx' hx;go_in;go_wp2_with fail
 refine(HA.out).mono ?_;rintro e w3 ⟨rfl,hb3,hw3⟩;go_wp2_with fail
 go_end0;exact⟨rfl,by rw[HT.out];exact hb3,hw3⟩
theorem pexpr_16 (d:Nat) (ih:PE d) (x:ET) (far g o B b:Nat) (ob:List UInt8) (u w:World) (hl:ob.length+(textE x).length≤90000000) (hu:u.heap.size≤B) (huw:Below u.heap.size u w) (hE:Env u) (hb:Bld 54 B b ob w) (hx:PtrE u (d+1) x g o) (hr:rightE x far=true) (hk:x.kind=16) :
  Calls Tryz.prog 22 #[.pointer (some ⟨b,0,none⟩),.pointer (some ⟨g,o,none⟩)] w fun e w'=>e=.returned (.tuple #[])∧Bld 54 B b (ob++textE x) w'∧Wrote B b w w':=by
 obtain⟨hkn,hnk,hcv,hkr⟩:=right_parts hr;obtain⟨qn,qi,pn,p,cap,hx'⟩:=hx.open
 have hg:=hx'.lt;clear hkn hnk hcv;have x0:∀ w',Below u.heap.size u w'→w'.cell? ⟨g,o,none⟩=some (.int .i64 16):=fun w' h=>by rw[←hk];exact(h.cell (p:=⟨g,o,none⟩) hg).trans hx'.c0
 have y0:=x0 w huw;have hT:textE x=[91]++rowJ false true x.names (textEL x.kids)++[93]:=textE_16 hk;rw[hT]at hl;have HA:=zh (prow_false d ih x (far - 1) g o B b 91 93 ob u w hl hu huw hE hb hx hkr (by rw[hk];rfl));have HT:=zh hT;clear hT hl hb hk x0 hx' hx;go_in;go_wp2_with fail
 refine(HA.out).mono ?_;rintro e w3 ⟨rfl,hb3,hw3⟩;go_wp2_with fail
 go_end0;exact⟨rfl,by rw[HT.out];exact hb3,hw3⟩
theorem pexpr_17 (d:Nat) (ih:PE d) (x:ET) (far g o B b:Nat) (ob:List UInt8) (u w:World) (hl:ob.length+(textE x).length≤90000000) (hu:u.heap.size≤B) (huw:Below u.heap.size u w) (hE:Env u) (hb:Bld 54 B b ob w) (hx:PtrE u (d+1) x g o) (hr:rightE x far=true) (hk:x.kind=17) :
  Calls Tryz.prog 22 #[.pointer (some ⟨b,0,none⟩),.pointer (some ⟨g,o,none⟩)] w fun e w'=>e=.returned (.tuple #[])∧Bld 54 B b (ob++textE x) w'∧Wrote B b w w':=by
 obtain⟨hkn,hnk,hcv,hkr⟩:=right_parts hr;have hnk:=hnk hk;obtain⟨qn,qi,pn,p,cap,hx'⟩:=hx.open
 have hg:=hx'.lt;clear hkn hcv;have x0:∀ w',Below u.heap.size u w'→w'.cell? ⟨g,o,none⟩=some (.int .i64 17):=fun w' h=>by rw[←hk];exact(h.cell (p:=⟨g,o,none⟩) hg).trans hx'.c0
 have y0:=x0 w huw;have hT:textE x=[123]++rowJ true true x.names (textEL x.kids)++[125]:=textE_17 hk;rw[hT]at hl;have HA:=zh (prow_true d ih x (far - 1) g o B b 123 125 ob u w hl hu huw hE hb hx hkr (by rw[hk];rfl) hnk);have HT:=zh hT;clear hT hl hb hk x0 hx' hx;go_in;go_wp2_with fail
 refine(HA.out).mono ?_;rintro e w3 ⟨rfl,hb3,hw3⟩;go_wp2_with fail
 go_end0;exact⟨rfl,by rw[HT.out];exact hb3,hw3⟩
theorem pexpr_18 (d:Nat) (ih:PE d) (x:ET) (far g o B b:Nat) (ob:List UInt8) (u w:World) (hl:ob.length+(textE x).length≤90000000) (hu:u.heap.size≤B) (huw:Below u.heap.size u w) (hE:Env u) (hb:Bld 54 B b ob w) (hx:PtrE u (d+1) x g o) (hr:rightE x far=true) (hk:x.kind=18) :
  Calls Tryz.prog 22 #[.pointer (some ⟨b,0,none⟩),.pointer (some ⟨g,o,none⟩)] w fun e w'=>e=.returned (.tuple #[])∧Bld 54 B b (ob++textE x) w'∧Wrote B b w w':=by
 obtain⟨hkn,hnk,hcv,hkr⟩:=right_parts hr;have hkn:=hkn 1 (by rw[hk];decide);obtain⟨qn,qi,pn,p,cap,hx'⟩:=hx.open
 have hg:=hx'.lt;clear hcv hnk;have x0:∀ w',Below u.heap.size u w'→w'.cell? ⟨g,o,none⟩=some (.int .i64 18):=fun w' h=>by rw[←hk];exact(h.cell (p:=⟨g,o,none⟩) hg).trans hx'.c0
 have y0:=x0 w huw;have hT:textE x=firstT (x.kids.getD 0 noET).kind (textE (x.kids.getD 0 noET))++([46]++x.str):=textE_18 hk hkn;rw[hT]at hl;obtain⟨g0,o0,hp0,hg0,hv0⟩:=hx'.kid 0 (by omega);subst hp0;have hr0:=rightEL_at hkr (i:=0) (by omega);have HK9:=zh (fun w' (h:Below u.heap.size u w')=>(h.cell (p:=⟨g,o+9,none⟩) hg).trans hx'.c9);have z9:=HK9.out w huw;simp only[List.length_append,List.length_cons,List.length_nil]at hl;have HF:=zh (pfirst_any d ih (x.kids.getD 0 noET) (far - 1) g0 (o0+0*10) B b ob u w (by omega) hu huw hE hb hv0 hr0);rw[hkn]at z9;have x1:∀ w',Below u.heap.size u w'→w'.cell? ⟨g,o+1,none⟩=some (.string ⟨x.str.toArray⟩):=fun w' h=>(h.cell (p:=⟨g,o+1,none⟩) hg).trans hx'.c1
 have HX1:=zh x1;have HT:=zh hT;have hl1:x.str.length≤90000000:=by omega
 have hl2:ob.length+(firstT (x.kids.getD 0 noET).kind (textE (x.kids.getD 0 noET))).length+x.str.length≤90000000:=by omega
 have HL:=zh hl2;have hsum:∀ w,(Op.stringOp .add ⟨#[46]⟩ ⟨x.str.toArray⟩).run Tryz.prog w=.ok (.string ⟨(46::x.str).toArray⟩) w:=fun w=>by
  rw[run_string_add_sum w _ _ (by show 1+x.str.toArray.size≤_;rw[List.size_toArray];omega),show(⟨#[46]⟩:ByteArray)++(⟨x.str.toArray⟩:ByteArray)=⟨(46::x.str).toArray⟩ from ba_cat [46] x.str]
 clear hT hl hb hk x0 hx' hx x1 hv0 hr0 hkn hl2;generalize firstT (x.kids.getD 0 noET).kind (textE (x.kids.getD 0 noET))=T0 at *;go_in;go_wp2_with fail
 refine(HF.out).mono ?_;rintro e w3 ⟨rfl,hb3,hw3⟩;have y1:=HX1.out _ (below_wrote hu huw hw3);have HX2:=zh (fun w' (hw:Wrote B b w3 w')=>HX1.out w' (below_wrote hu huw (hw3.trans hw)));have HW:=zh (fun w' (hbw:Below w3.heap.size w3 w')=>(hb3.below hbw).writeS bt_pp (46::x.str) (by have:=HL.out;simp only[List.length_append,List.length_cons];omega));clear hb3;go_wp2_with fail
 go_region_held3 (fun w'=>w'.cell? ⟨g,o+1,none⟩=some (.string ⟨x.str.toArray⟩)) (first|with_reducible exact y1|with_reducible exact HX2.out _ (wrote_drew hw2)|go_keep) ((go_at_call 44;(with_reducible refine(HW.out _ (Below.refl _ _).drew).mono ?_);rintro e u2 ⟨rfl,hd2,hw2⟩))
 go_wp2_with fail
 go_end0;exact⟨rfl,by rw[HT.out];simpa using hd2,hw3.trans (wrote_drew hw2)⟩
theorem pexpr_19 (d:Nat) (ih:PE d) (x:ET) (far g o B b:Nat) (ob:List UInt8) (u w:World) (hl:ob.length+(textE x).length≤90000000) (hu:u.heap.size≤B) (huw:Below u.heap.size u w) (hE:Env u) (hb:Bld 54 B b ob w) (hx:PtrE u (d+1) x g o) (hr:rightE x far=true) (hk:x.kind=19) :
  Calls Tryz.prog 22 #[.pointer (some ⟨b,0,none⟩),.pointer (some ⟨g,o,none⟩)] w fun e w'=>e=.returned (.tuple #[])∧Bld 54 B b (ob++textE x) w'∧Wrote B b w w':=by
 obtain⟨hkn,hnk,hcv,hkr⟩:=right_parts hr;have hkn:=hkn 2 (by rw[hk];decide);obtain⟨qn,qi,pn,p,cap,hx'⟩:=hx.open
 have hg:=hx'.lt;clear hcv hnk;have x0:∀ w',Below u.heap.size u w'→w'.cell? ⟨g,o,none⟩=some (.int .i64 19):=fun w' h=>by rw[←hk];exact(h.cell (p:=⟨g,o,none⟩) hg).trans hx'.c0
 have y0:=x0 w huw;have hT:textE x=firstT (x.kids.getD 0 noET).kind (textE (x.kids.getD 0 noET))++([91]++(textE (x.kids.getD 1 noET)++[93])):=textE_19 hk hkn;rw[hT]at hl;obtain⟨g0,o0,hp0,hg0,hv0⟩:=hx'.kid 0 (by omega);subst hp0;have hr0:=rightEL_at hkr (i:=0) (by omega);have HK9:=zh (fun w' (h:Below u.heap.size u w')=>(h.cell (p:=⟨g,o+9,none⟩) hg).trans hx'.c9);have z9:=HK9.out w huw;obtain⟨g1,o1,hp1,hg1,hv1⟩:=hx'.kid 1 (by omega);simp only[Option.some.injEq,Addr.mk.injEq,and_true]at hp1;obtain⟨rfl,rfl⟩:=hp1;have hr1:=rightEL_at hkr (i:=1) (by omega);simp only[List.length_append,List.length_cons,List.length_nil]at hl;have HF:=zh (pfirst_any d ih (x.kids.getD 0 noET) (far - 1) g0 (o0+0*10) B b ob u w (by omega) hu huw hE hb hv0 hr0);rw[hkn]at z9;have hkn':=hkn;have HK9':=zh (fun w' (h:Below u.heap.size u w')=>(show w'.cell? ⟨g,o+9,none⟩=some (.slice (some ⟨g0,o0,none⟩) 2 cap) from by rw[←hkn];exact HK9.out w' h));have HT:=zh hT;have HL:=zh hl;clear hT hl hb hk x0 hx' hx hv0 hr0 hkn hkn' HK9;generalize firstT (x.kids.getD 0 noET).kind (textE (x.kids.getD 0 noET))=T0 at *;generalize x.kids.getD 1 noET=x1 at *;go_in;go_wp2_with fail
 refine(HF.out).mono ?_;rintro e w3 ⟨rfl,hb3,hw3⟩;have HW4:=zh (show Calls Tryz.prog 48 #[.pointer (some ⟨b,0,none⟩),.int .u8 91] w3 _ from hb3.write bt_pp (by have:=HL.out;simp only[List.length_append];omega) 91);clear hb3;go_wp2_with fail
 refine(HW4.out).mono ?_;rintro e w5 ⟨rfl,hb5,hw5⟩;have hw35:=hw3.trans hw5;have hu5:=below_wrote hu huw hw35;have z5:=HK9'.out _ hu5;have HC:=zh (ih x1 (far - 1) g0 (o0+1*10) B b (ob++T0++[91]) u w5 (by have:=HL.out;simp only[List.length_append,List.length_cons,List.length_nil];omega) hu hu5 hE hb5 hv1 hr1);clear hb5;go_wp2_with fail
 refine(HC.out).mono ?_;rintro e w6 ⟨rfl,hb6,hw6⟩;have HW7:=zh (show Calls Tryz.prog 48 #[.pointer (some ⟨b,0,none⟩),.int .u8 93] w6 _ from hb6.write bt_pp (by have:=HL.out;simp only[List.length_append,List.length_cons,List.length_nil];omega) 93);clear hb6;go_wp2_with fail
 refine(HW7.out).mono ?_;rintro e w7 ⟨rfl,hb7,hw7⟩;go_wp2_with fail
 go_end0;exact⟨rfl,by rw[HT.out];simpa only[List.append_assoc] using hb7,hw35.trans (hw6.trans hw7)⟩
theorem pexpr_20 (d:Nat) (ih:PE d) (x:ET) (far g o B b:Nat) (ob:List UInt8) (u w:World) (hl:ob.length+(textE x).length≤90000000) (hu:u.heap.size≤B) (huw:Below u.heap.size u w) (hE:Env u) (hb:Bld 54 B b ob w) (hx:PtrE u (d+1) x g o) (hr:rightE x far=true) (hk:x.kind=20) :
  Calls Tryz.prog 22 #[.pointer (some ⟨b,0,none⟩),.pointer (some ⟨g,o,none⟩)] w fun e w'=>e=.returned (.tuple #[])∧Bld 54 B b (ob++textE x) w'∧Wrote B b w w':=by
 obtain⟨hkn,hnk,hcv,hkr⟩:=right_parts hr;have hkn:=hkn 1 (by rw[hk];decide);obtain⟨qn,qi,pn,p,cap,hx'⟩:=hx.open
 have hg:=hx'.lt;clear hcv hnk;have x0:∀ w',Below u.heap.size u w'→w'.cell? ⟨g,o,none⟩=some (.int .i64 20):=fun w' h=>by rw[←hk];exact(h.cell (p:=⟨g,o,none⟩) hg).trans hx'.c0
 have y0:=x0 w huw;have hT:textE x=allT [[108,101,110,40],[41]] (textEL x.kids):=(textE_c (by omega) (by omega) hkn).trans (by rw[hk];rfl);rw[hT]at hl;have HX0:=zh (fun w' (hw:Below w.heap.size w w')=>x0 w' (huw.trans (hw.mono huw.size)));have HX1:=zh (fun w' (hw:Wrote B b w w')=>x0 w' (below_wrote hu huw hw));have HA:=zh (fun W (hW:Below w.heap.size w W)=>pall_new d ih x (far - 1) g o B b [[108,101,110,40],[41]] ob u w W #[.string ⟨#[108,101,110,40]⟩,.string ⟨#[41]⟩] rfl hl (by simp) 2 rfl hu huw hW hE hb hx hkr);have HC:=zh (fun w=>pcalls_any w);have HT:=zh hT;have hsum:∀ w,(Op.stringOp .add ⟨#[108,101,110]⟩ ⟨#[40]⟩).run Tryz.prog w=.ok (.string ⟨#[108,101,110,40]⟩) w:=fun w=>run_string_add_sum w _ _ (by decide)
 have hwr:IntKind.i64.wrap 0=0:=by decide
 clear hT hl hb hk x0 hx' hx;go_in;go_wp2_with fail
 go_region_law (first
  | (go_simp;go_at_call 49;(with_reducible refine(HC.out _).mono ?_);rintro e u1 ⟨G,rfl,hG,hb1⟩;have cG:u1.cell? ⟨G,0,none⟩=some (.string ⟨#[108,101,110]⟩):=cell_row hG rfl;have y1:=HX0.out _ (undrew hb1);dsimp only)
  | (go_at_call 49;(with_reducible refine(HC.out _).mono ?_);rintro e u1 ⟨G,rfl,hG,hb1⟩;have cG:u1.cell? ⟨G,0,none⟩=some (.string ⟨#[108,101,110]⟩):=cell_row hG rfl;have y1:=HX0.out _ (undrew hb1);dsimp only)
  | (go_simp;go_at_call 45;(with_reducible refine(HA.out _ (undrew hb1)).mono ?_);rintro e u2 ⟨rfl,hd2,hw2⟩;dsimp only)
  | (go_at_call 45;(with_reducible refine(HA.out _ (undrew hb1)).mono ?_);rintro e u2 ⟨rfl,hd2,hw2⟩;dsimp only))
 all_goals
  go_wp2_with fail
  go_end0;exact⟨rfl,by rw[HT.out];exact hd2,hw2⟩
theorem pexpr_21 (d:Nat) (ih:PE d) (x:ET) (far g o B b:Nat) (ob:List UInt8) (u w:World) (hl:ob.length+(textE x).length≤90000000) (hu:u.heap.size≤B) (huw:Below u.heap.size u w) (hE:Env u) (hb:Bld 54 B b ob w) (hx:PtrE u (d+1) x g o) (hr:rightE x far=true) (hk:x.kind=21) :
  Calls Tryz.prog 22 #[.pointer (some ⟨b,0,none⟩),.pointer (some ⟨g,o,none⟩)] w fun e w'=>e=.returned (.tuple #[])∧Bld 54 B b (ob++textE x) w'∧Wrote B b w w':=by
 obtain⟨hkn,hnk,hcv,hkr⟩:=right_parts hr;have hkn:=hkn 1 (by rw[hk];decide);obtain⟨qn,qi,pn,p,cap,hx'⟩:=hx.open
 have hg:=hx'.lt;clear hcv hnk;have x0:∀ w',Below u.heap.size u w'→w'.cell? ⟨g,o,none⟩=some (.int .i64 21):=fun w' h=>by rw[←hk];exact(h.cell (p:=⟨g,o,none⟩) hg).trans hx'.c0
 have y0:=x0 w huw;have hT:textE x=allT [[102,108,111,97,116,40],[41]] (textEL x.kids):=(textE_c (by omega) (by omega) hkn).trans (by rw[hk];rfl);rw[hT]at hl;have HX0:=zh (fun w' (hw:Below w.heap.size w w')=>x0 w' (huw.trans (hw.mono huw.size)));have HX1:=zh (fun w' (hw:Wrote B b w w')=>x0 w' (below_wrote hu huw hw));have HA:=zh (fun W (hW:Below w.heap.size w W)=>pall_new d ih x (far - 1) g o B b [[102,108,111,97,116,40],[41]] ob u w W #[.string ⟨#[102,108,111,97,116,40]⟩,.string ⟨#[41]⟩] rfl hl (by simp) 2 rfl hu huw hW hE hb hx hkr);have HC:=zh (fun w=>pcalls_any w);have HT:=zh hT;have hsum:∀ w,(Op.stringOp .add ⟨#[102,108,111,97,116]⟩ ⟨#[40]⟩).run Tryz.prog w=.ok (.string ⟨#[102,108,111,97,116,40]⟩) w:=fun w=>run_string_add_sum w _ _ (by decide)
 have hwr:IntKind.i64.wrap 1=1:=by decide
 clear hT hl hb hk x0 hx' hx;go_in;go_wp2_with fail
 go_region_law (first
  | (go_simp;go_at_call 49;(with_reducible refine(HC.out _).mono ?_);rintro e u1 ⟨G,rfl,hG,hb1⟩;have cG:u1.cell? ⟨G,1,none⟩=some (.string ⟨#[102,108,111,97,116]⟩):=cell_row hG rfl;have y1:=HX0.out _ (undrew hb1);dsimp only)
  | (go_at_call 49;(with_reducible refine(HC.out _).mono ?_);rintro e u1 ⟨G,rfl,hG,hb1⟩;have cG:u1.cell? ⟨G,1,none⟩=some (.string ⟨#[102,108,111,97,116]⟩):=cell_row hG rfl;have y1:=HX0.out _ (undrew hb1);dsimp only)
  | (go_simp;go_at_call 45;(with_reducible refine(HA.out _ (undrew hb1)).mono ?_);rintro e u2 ⟨rfl,hd2,hw2⟩;dsimp only)
  | (go_at_call 45;(with_reducible refine(HA.out _ (undrew hb1)).mono ?_);rintro e u2 ⟨rfl,hd2,hw2⟩;dsimp only))
 all_goals
  go_wp2_with fail
  go_end0;exact⟨rfl,by rw[HT.out];exact hd2,hw2⟩
theorem pexpr_22 (d:Nat) (ih:PE d) (x:ET) (far g o B b:Nat) (ob:List UInt8) (u w:World) (hl:ob.length+(textE x).length≤90000000) (hu:u.heap.size≤B) (huw:Below u.heap.size u w) (hE:Env u) (hb:Bld 54 B b ob w) (hx:PtrE u (d+1) x g o) (hr:rightE x far=true) (hk:x.kind=22) :
  Calls Tryz.prog 22 #[.pointer (some ⟨b,0,none⟩),.pointer (some ⟨g,o,none⟩)] w fun e w'=>e=.returned (.tuple #[])∧Bld 54 B b (ob++textE x) w'∧Wrote B b w w':=by
 obtain⟨hkn,hnk,hcv,hkr⟩:=right_parts hr;have hkn:=hkn 1 (by rw[hk];decide);obtain⟨qn,qi,pn,p,cap,hx'⟩:=hx.open
 have hg:=hx'.lt;clear hcv hnk;have x0:∀ w',Below u.heap.size u w'→w'.cell? ⟨g,o,none⟩=some (.int .i64 22):=fun w' h=>by rw[←hk];exact(h.cell (p:=⟨g,o,none⟩) hg).trans hx'.c0
 have y0:=x0 w huw;have hT:textE x=allT [[105,110,116,40],[41]] (textEL x.kids):=(textE_c (by omega) (by omega) hkn).trans (by rw[hk];rfl);rw[hT]at hl;have HX0:=zh (fun w' (hw:Below w.heap.size w w')=>x0 w' (huw.trans (hw.mono huw.size)));have HX1:=zh (fun w' (hw:Wrote B b w w')=>x0 w' (below_wrote hu huw hw));have HA:=zh (fun W (hW:Below w.heap.size w W)=>pall_new d ih x (far - 1) g o B b [[105,110,116,40],[41]] ob u w W #[.string ⟨#[105,110,116,40]⟩,.string ⟨#[41]⟩] rfl hl (by simp) 2 rfl hu huw hW hE hb hx hkr);have HC:=zh (fun w=>pcalls_any w);have HT:=zh hT;have hsum:∀ w,(Op.stringOp .add ⟨#[105,110,116]⟩ ⟨#[40]⟩).run Tryz.prog w=.ok (.string ⟨#[105,110,116,40]⟩) w:=fun w=>run_string_add_sum w _ _ (by decide)
 have hwr:IntKind.i64.wrap 2=2:=by decide
 clear hT hl hb hk x0 hx' hx;go_in;go_wp2_with fail
 go_region_law (first
  | (go_simp;go_at_call 49;(with_reducible refine(HC.out _).mono ?_);rintro e u1 ⟨G,rfl,hG,hb1⟩;have cG:u1.cell? ⟨G,2,none⟩=some (.string ⟨#[105,110,116]⟩):=cell_row hG rfl;have y1:=HX0.out _ (undrew hb1);dsimp only)
  | (go_at_call 49;(with_reducible refine(HC.out _).mono ?_);rintro e u1 ⟨G,rfl,hG,hb1⟩;have cG:u1.cell? ⟨G,2,none⟩=some (.string ⟨#[105,110,116]⟩):=cell_row hG rfl;have y1:=HX0.out _ (undrew hb1);dsimp only)
  | (go_simp;go_at_call 45;(with_reducible refine(HA.out _ (undrew hb1)).mono ?_);rintro e u2 ⟨rfl,hd2,hw2⟩;dsimp only)
  | (go_at_call 45;(with_reducible refine(HA.out _ (undrew hb1)).mono ?_);rintro e u2 ⟨rfl,hd2,hw2⟩;dsimp only))
 all_goals
  go_wp2_with fail
  go_end0;exact⟨rfl,by rw[HT.out];exact hd2,hw2⟩
theorem pexpr_23 (d:Nat) (ih:PE d) (x:ET) (far g o B b:Nat) (ob:List UInt8) (u w:World) (hl:ob.length+(textE x).length≤90000000) (hu:u.heap.size≤B) (huw:Below u.heap.size u w) (hE:Env u) (hb:Bld 54 B b ob w) (hx:PtrE u (d+1) x g o) (hr:rightE x far=true) (hk:x.kind=23) :
  Calls Tryz.prog 22 #[.pointer (some ⟨b,0,none⟩),.pointer (some ⟨g,o,none⟩)] w fun e w'=>e=.returned (.tuple #[])∧Bld 54 B b (ob++textE x) w'∧Wrote B b w w':=by
 obtain⟨hkn,hnk,hcv,hkr⟩:=right_parts hr;have hkn:=hkn 1 (by rw[hk];decide);obtain⟨qn,qi,pn,p,cap,hx'⟩:=hx.open
 have hg:=hx'.lt;clear hcv hnk;have x0:∀ w',Below u.heap.size u w'→w'.cell? ⟨g,o,none⟩=some (.int .i64 23):=fun w' h=>by rw[←hk];exact(h.cell (p:=⟨g,o,none⟩) hg).trans hx'.c0
 have y0:=x0 w huw;have hT:textE x=allT [[115,116,114,40],[41]] (textEL x.kids):=(textE_c (by omega) (by omega) hkn).trans (by rw[hk];rfl);rw[hT]at hl;have HX0:=zh (fun w' (hw:Below w.heap.size w w')=>x0 w' (huw.trans (hw.mono huw.size)));have HX1:=zh (fun w' (hw:Wrote B b w w')=>x0 w' (below_wrote hu huw hw));have HA:=zh (fun W (hW:Below w.heap.size w W)=>pall_new d ih x (far - 1) g o B b [[115,116,114,40],[41]] ob u w W #[.string ⟨#[115,116,114,40]⟩,.string ⟨#[41]⟩] rfl hl (by simp) 2 rfl hu huw hW hE hb hx hkr);have HC:=zh (fun w=>pcalls_any w);have HT:=zh hT;have hsum:∀ w,(Op.stringOp .add ⟨#[115,116,114]⟩ ⟨#[40]⟩).run Tryz.prog w=.ok (.string ⟨#[115,116,114,40]⟩) w:=fun w=>run_string_add_sum w _ _ (by decide)
 have hwr:IntKind.i64.wrap 3=3:=by decide
 clear hT hl hb hk x0 hx' hx;go_in;go_wp2_with fail
 go_region_law (first
  | (go_simp;go_at_call 49;(with_reducible refine(HC.out _).mono ?_);rintro e u1 ⟨G,rfl,hG,hb1⟩;have cG:u1.cell? ⟨G,3,none⟩=some (.string ⟨#[115,116,114]⟩):=cell_row hG rfl;have y1:=HX0.out _ (undrew hb1);dsimp only)
  | (go_at_call 49;(with_reducible refine(HC.out _).mono ?_);rintro e u1 ⟨G,rfl,hG,hb1⟩;have cG:u1.cell? ⟨G,3,none⟩=some (.string ⟨#[115,116,114]⟩):=cell_row hG rfl;have y1:=HX0.out _ (undrew hb1);dsimp only)
  | (go_simp;go_at_call 45;(with_reducible refine(HA.out _ (undrew hb1)).mono ?_);rintro e u2 ⟨rfl,hd2,hw2⟩;dsimp only)
  | (go_at_call 45;(with_reducible refine(HA.out _ (undrew hb1)).mono ?_);rintro e u2 ⟨rfl,hd2,hw2⟩;dsimp only))
 all_goals
  go_wp2_with fail
  go_end0;exact⟨rfl,by rw[HT.out];exact hd2,hw2⟩
theorem pexpr_all:∀ d:Nat,PE d
 | 0=>by
  intro x far g o B b ob u w hl hu huw hE hb hx hr;obtain⟨_,_,h,_⟩:=hx;exact h.elim
 | d+1=>by
  have ih:=pexpr_all d;intro x far g o B b ob u w hl hu huw hE hb hx hr;have hk:=rightE_kind hr;have hc:x.kind=1∨x.kind=2∨x.kind=3∨x.kind=4∨x.kind=5∨x.kind=6∨x.kind=7∨x.kind=8∨x.kind=9∨x.kind=10∨x.kind=11∨x.kind=12∨x.kind=13∨x.kind=14∨x.kind=15∨x.kind=16∨x.kind=17∨x.kind=18∨x.kind=19∨x.kind=20∨x.kind=21∨x.kind=22∨x.kind=23:=by omega
  rcases hc with h|h|h|h|h|h|h|h|h|h|h|h|h|h|h|h|h|h|h|h|h|h|h
  ·exact pexpr_1 d ih x far g o B b ob u w hl hu huw hE hb hx hr h
  ·exact pexpr_2 d ih x far g o B b ob u w hl hu huw hE hb hx hr h
  ·exact pexpr_3 d ih x far g o B b ob u w hl hu huw hE hb hx hr h
  ·exact pexpr_4 d ih x far g o B b ob u w hl hu huw hE hb hx hr h
  ·exact pexpr_5 d ih x far g o B b ob u w hl hu huw hE hb hx hr h
  ·exact pexpr_6 d ih x far g o B b ob u w hl hu huw hE hb hx hr h
  ·exact pexpr_7 d ih x far g o B b ob u w hl hu huw hE hb hx hr h
  ·exact pexpr_8 d ih x far g o B b ob u w hl hu huw hE hb hx hr h
  ·exact pexpr_9 d ih x far g o B b ob u w hl hu huw hE hb hx hr h
  ·exact pexpr_10 d ih x far g o B b ob u w hl hu huw hE hb hx hr h
  ·exact pexpr_11 d ih x far g o B b ob u w hl hu huw hE hb hx hr h
  ·exact pexpr_12 d ih x far g o B b ob u w hl hu huw hE hb hx hr h
  ·exact pexpr_13 d ih x far g o B b ob u w hl hu huw hE hb hx hr h
  ·exact pexpr_14 d ih x far g o B b ob u w hl hu huw hE hb hx hr h
  ·exact pexpr_15 d ih x far g o B b ob u w hl hu huw hE hb hx hr h
  ·exact pexpr_16 d ih x far g o B b ob u w hl hu huw hE hb hx hr h
  ·exact pexpr_17 d ih x far g o B b ob u w hl hu huw hE hb hx hr h
  ·exact pexpr_18 d ih x far g o B b ob u w hl hu huw hE hb hx hr h
  ·exact pexpr_19 d ih x far g o B b ob u w hl hu huw hE hb hx hr h
  ·exact pexpr_20 d ih x far g o B b ob u w hl hu huw hE hb hx hr h
  ·exact pexpr_21 d ih x far g o B b ob u w hl hu huw hE hb hx hr h
  ·exact pexpr_22 d ih x far g o B b ob u w hl hu huw hE hb hx hr h
  ·exact pexpr_23 d ih x far g o B b ob u w hl hu huw hE hb hx hr h
end
section
open Go
mutual
/-- all parts -/
def szE:ET→Nat
 | .mk _ _ _ _ ks=>1+szEL ks
def szEL:List ET→Nat
 | []=>0
 | x::xs=>szE x+szEL xs
end
mutual
theorem count_sz:∀ (x:ET) (n:Nat),countE x n<500→countE x n=n+szE x
 | .mk _ _ _ _ ks,n,h=>by
  rw[countE]at h ⊢
  rw[szE,count_szL ks (n+1) h];omega
theorem count_szL:∀ (l:List ET) (n:Nat),countEL l n<500→countEL l n=n+szEL l
 | [],n,_=>by rw[countEL,szEL];rfl
 | x::xs,n,h=>by
  rw[countEL]at h ⊢
  rw[szEL];by_cases hn:500≤n
  ·rw[if_pos hn]at h;omega
  ·rw[if_neg hn]at h ⊢
   have h1:=countE_le x n (by omega);have h2:=countEL_le xs (countE x n) h1.1;rw[count_szL xs _ h,count_sz x n (by omega)];omega
end
def sumL:List (List UInt8)→Nat
 | []=>0
 | t::ts=>t.length+sumL ts
theorem allT_len:∀ ts ks:List (List UInt8),(allT ts ks).length≤sumL ts+sumL ks
 | [],_=>by rw[allT];simp
 | t::ts,[]=>by
  have:=allT_len ts [];simp only[allT,sumL,List.length_append]at this ⊢;omega
 | t::ts,k::ks=>by
  have:=allT_len ts ks;rw[allT,sumL,sumL,List.length_append,List.length_append];omega
theorem headD_len {ns:List (List UInt8)} (h:∀ a ∈ ns,a.length≤30):(ns.headD []).length≤30:=by
 cases ns with
 | nil=>simp
 | cons a l=>exact h a (by simp)
theorem rowJ_len (named:Bool):∀ (f:Bool) (ns ts:List (List UInt8)),(∀ a ∈ ns,a.length≤30)→(rowJ named f ns ts).length≤32*ts.length+sumL ts
 | _,_,[],_=>by rw[rowJ];simp
 | f,ns,t::ts,h=>by
  have h1:=rowJ_len named false ns.tail ts (fun a ha=>h a (List.mem_of_mem_tail ha));have h2:=headD_len h;rw[rowJ,sumL];simp only[List.length_append,List.length_cons];have e1:(if f=true then([]:List UInt8) else [44]).length≤1:=by split<;>simp
  have e2:(if named=true then ns.headD []++[58] else []).length≤31:=by
   split
   ·rw[List.length_append,List.length_cons,List.length_nil];omega
   ·simp
  omega
theorem firstT_len (k:Int) (t:List UInt8):(firstT k t).length≤t.length+2:=by
 unfold firstT;split<;>simp
theorem nm_len {l:List UInt8} (h:nmB l=true):l.length≤30:=by
 unfold nmB at h;simp only[Bool.and_eq_true,decide_eq_true_eq]at h;omega
theorem sum_at:∀ (l:List (List UInt8)) (i:Nat),(l.getD i []).length≤sumL l
 | [],i=>by simp
 | a::l,0=>by rw[sumL];simp
 | a::l,i+1=>by
  have:=sum_at l i;rw[sumL];have e:(a::l).getD (i+1) []=l.getD i []:=rfl;rw[e];omega
theorem inE_parts {x:ET} (h:inE x):inV x.v∧inEL x.kids:=by cases x;rw[inE]at h;exact h
theorem inV_num {v:VT} (h:inV v) : -9223372036854775808≤v.num∧v.num≤9223372036854775807:=by cases v;rw[inV]at h;exact h.2.1
theorem word_len:∀ i:Nat,(callsB.getD i []).length≤5∧(signsB.getD i []).length≤2:=by
 intro i;by_cases h:i<10
 ·have:i=0∨i=1∨i=2∨i=3∨i=4∨i=5∨i=6∨i=7∨i=8∨i=9:=by omega
  rcases this with rfl|rfl|rfl|rfl|rfl|rfl|rfl|rfl|rfl|rfl<;>decide
 ·rw[List.getD,List.getElem?_eq_none (by show 4≤i;omega),List.getD,List.getElem?_eq_none (by show 10≤i;omega)];simp
theorem named_parts {x:ET} {far:Nat} (h:rightE x far=true):namedE x.kind x.str x.names x.kids.length=true:=by
 cases far with
 | zero=>rw[rightE_zero]at h;cases h
 | succ far =>
  rw[rightE_open]at h;simp only[Bool.and_eq_true]at h;exact h.2.2.1
theorem str_len {x:ET} {far:Nat} (h:rightE x far=true):x.str.length≤30:=by
 have h:=named_parts h;unfold namedE at h;by_cases h2:x.kind=2
 ·rw[if_pos h2]at h;simp only[Bool.and_eq_true]at h;exact nm_len h.1.2
 ·rw[if_neg h2]at h;by_cases h18:x.kind=18
  ·rw[if_pos h18]at h;simp only[Bool.and_eq_true]at h;exact nm_len (field_nm h.1).1
  ·rw[if_neg h18]at h;by_cases h17:x.kind=17
   ·rw[if_pos h17]at h;simp only[Bool.and_eq_true,List.isEmpty_iff]at h;rw[h.1.1];simp
   ·rw[if_neg h17]at h;simp only[Bool.and_eq_true,List.isEmpty_iff]at h;rw[h.1];simp
theorem names_len {x:ET} {far:Nat} (h:rightE x far=true):∀ a ∈ x.names,a.length≤30:=by
 have h:=named_parts h;unfold namedE at h;by_cases h2:x.kind=2
 ·rw[if_pos h2]at h;simp only[Bool.and_eq_true,List.isEmpty_iff]at h;rw[h.2];simp
 ·rw[if_neg h2]at h;by_cases h18:x.kind=18
  ·rw[if_pos h18]at h;simp only[Bool.and_eq_true,List.isEmpty_iff]at h;rw[h.2];simp
  ·rw[if_neg h18]at h;by_cases h17:x.kind=17
   ·rw[if_pos h17]at h;simp only[Bool.and_eq_true]at h;exact fun a ha=>nm_len (field_nm (rowE_all h.1.2 a ha)).1
   ·rw[if_neg h17]at h;simp only[Bool.and_eq_true,List.isEmpty_iff]at h;rw[h.2];simp
mutual
theorem text_len:∀ (x:ET) (far:Nat),rightE x far=true→inE x→(textE x).length+40≤1100*szE x
 | .mk k s v ns ks,far,h,hi=>by
  obtain⟨hkn,hnk,hcv,hkr⟩:=right_parts h;obtain⟨iv,ik⟩:=inE_parts hi;have hL:=text_lenL ks (far - 1) hkr ik;have hk:=rightE_kind h;have hz:szE (.mk k s v ns ks)=1+szEL ks:=by rw[szE]
  rw[hz];generalize hx:ET.mk k s v ns ks=x at *;have e1:x.kind=k:=by rw[←hx];rfl
  have e2:x.kids=ks:=by rw[←hx];rfl
  have e3:x.v=v:=by rw[←hx];rfl
  have e4:x.str=s:=by rw[←hx];rfl
  have e5:x.names=ns:=by rw[←hx];rfl
  have hs:x.str.length≤30:=str_len h;have hns:=names_len h;rw[e2]at hkn hnk;have hc:k=1∨k=2∨k=3∨k=4∨(5≤k∧k≤14)∨k=15∨k=16∨k=17∨k=18∨k=19∨(20≤k∧k≤23):=by omega
  rcases hc with c|c|c|c|c|c|c|c|c|c|c
  ·rw[textE_1 (e1.trans c)];rw[if_pos (e1.trans c)]at hcv;have:=textC_len hcv (inV_num iv);omega
  ·rw[textE_2 (e1.trans c)];omega
  ·have hn:=hkn 1 (by rw[e1,c];decide);rw[textE_3 (e1.trans c) (by rw[e2];exact hn),e2];have:=allT_len [[40,45],[41]] (textEL ks);simp only[sumL,List.length_cons,List.length_nil]at this;omega
  ·have hn:=hkn 1 (by rw[e1,c];decide);rw[textE_4 (e1.trans c) (by rw[e2];exact hn),e2];have:=allT_len [[40,33],[41]] (textEL ks);simp only[sumL,List.length_cons,List.length_nil]at this;omega
  ·have hn:=hkn 2 (by rw[e1];unfold wantsE;rw[if_neg (by omega),if_neg (by omega),if_pos (by omega)];rfl);rw[textE_s (by omega) (by omega) (by rw[e2];exact hn),e2];have:=allT_len [[40],signsB.getD (x.kind - 5).toNat [],[41]] (textEL ks);have hw:=(word_len (x.kind - 5).toNat).2;simp only[sumL,List.length_cons,List.length_nil]at this;omega
  ·have hn:=hkn 3 (by rw[e1,c];decide);rw[textE_15 (e1.trans c) (by rw[e2];exact hn),e2];have:=allT_len [[40],[63],[58],[41]] (textEL ks);simp only[sumL,List.length_cons,List.length_nil]at this;omega
  ·rw[textE_16 (e1.trans c),e2];have:=rowJ_len false true x.names (textEL ks) hns;rw[textEL_len]at this;simp only[List.length_append,List.length_cons,List.length_nil];omega
  ·rw[textE_17 (e1.trans c),e2];have:=rowJ_len true true x.names (textEL ks) hns;rw[textEL_len]at this;simp only[List.length_append,List.length_cons,List.length_nil];omega
  ·have hn:=hkn 1 (by rw[e1,c];decide);rw[textE_18 (e1.trans c) (by rw[e2];exact hn),e2];have h1:=firstT_len (ks.getD 0 noET).kind (textE (ks.getD 0 noET));have h2:=sum_at (textEL ks) 0;rw[textEL_getD ks 0 (by omega)]at h2;simp only[List.length_append,List.length_cons,List.length_nil];omega
  ·have hn:=hkn 2 (by rw[e1,c];decide);rw[textE_19 (e1.trans c) (by rw[e2];exact hn),e2];obtain⟨a,b,rfl⟩:=len2 hn;have h1:=firstT_len (([a,b]:List ET).getD 0 noET).kind (textE (([a,b]:List ET).getD 0 noET));simp only[textEL,sumL]at hL;simp only[List.length_append,List.length_cons,List.length_nil]at hL ⊢
   have e6:([a,b]:List ET).getD 0 noET=a:=rfl;have e7:([a,b]:List ET).getD 1 noET=b:=rfl;rw[e6]at h1 ⊢
   rw[e7];omega
  ·have hn:=hkn 1 (by rw[e1];unfold wantsE;rw[if_neg (by omega),if_pos (by omega)];rfl);rw[textE_c (by omega) (by omega) (by rw[e2];exact hn),e2];have:=allT_len [callsB.getD (x.kind - 20).toNat []++[40],[41]] (textEL ks);have hw:=(word_len (x.kind - 20).toNat).1;simp only[sumL,List.length_append,List.length_cons,List.length_nil]at this;omega
theorem text_lenL:∀ (l:List ET) (far:Nat),rightEL l far=true→inEL l→sumL (textEL l)+40*l.length≤1100*szEL l
 | [],_,_,_=>by rw[textEL,sumL,szEL];simp
 | x::xs,far,h,hi=>by
  rw[rightEL,Bool.and_eq_true]at h;rw[inEL]at hi;have h1:=text_len x far h.1 hi.1;have h2:=text_lenL xs far h.2 hi.2;rw[textEL,sumL,szEL,List.length_cons];omega
end
/-- the text of a right expression is short -/
theorem text_short {x:ET} (h:rightEx x=true) (hi:inE x):(textE x).length≤220000:=by
 unfold rightEx at h;simp only[Bool.and_eq_true,decide_eq_true_eq]at h;have h1:=text_len x 12 h.2 hi;have h2:=count_sz x 0 (by omega);omega
end
end Go.Proofs.YtaaaaggmhjhkkaaGreatDoor
