/-
  Tg, To in one text.
-/
import Derived.Test.YtaaaaggmhjhkkaaGreatDoorS21
import Derived.Test.YtaaaaggmhjhkkaaGreatDoorCl
set_option maxRecDepth 100000
set_option maxHeartbeats 4000000
namespace Go.Proofs.YtaaaaggmhjhkkaaGreatDoor
section
open Go.RowKit
/-- a way that ends in a panic, within a region whose order is drawn: the walk goes on in a dummy -/
theorem dies_way {P:Program} {f:FuncId} {args:Array Value} {w:World} {post:Ending→World→Prop} (h:Calls P f args w post) (v:Value) (_:Hid False→post (.returned v) w):Calls P f args w post:=h
/-- what a reading that gave up ends in -/
def ErrAt (en:Nat) (r:List Tk):PErr→Ending→Prop
 | .deep,e=>e=faulted 15 0
 | .form n,e=>∃ r',r' <:+ r∧r'.length=n∧e=faulted 5 (posN en r')
theorem ErrAt.up {en:Nat} {r r':List Tk} (hs:r' <:+ r):∀ {er:PErr} {e:Ending},ErrAt en r' er e→ErrAt en r er e
 | .deep,_,h=>h
 | .form _,_,⟨q,h1,h2,h3⟩=>⟨q,h1.trans hs,h2,h3⟩
theorem ErrAt.ends {en:Nat} {r:List Tk}:∀ {er:PErr} {e:Ending},ErrAt en r er e→∃ x n,e=faulted x n
 | .deep,_,h=>⟨_,_,h⟩
 | .form _,_,⟨_,_,_,h⟩=>⟨_,_,h⟩
theorem ErrAt.here (en:Nat) (r:List Tk):ErrAt en r (.form r.length) (faulted 5 (posN en r)):=⟨r,List.suffix_refl r,rfl,rfl⟩
/-- what the reading of an expression leaves -/
def PrPost (b en dp:Nat) (r:List Tk) (w:World) (res:PR) (e:Ending) (w':World):Prop :=
 match res with
 | .error er=>ErrAt en r er e∧Fr [b] w w'
 | .ok q=>∃ cs d r',e=.returned (.agg cs)∧ExIn (fun g=>w.heap.size≤g) w' d q.1 cs∧r' <:+ r∧r'.map Tk.te=q.2∧PsAt b en dp r' w'∧Fr [b] w w'
theorem PrPost.bad {b en dp:Nat} {r:List Tk} {w:World} {res:PR} {e:Ending} {w':World} {er:PErr} (hr:res=.error er) (h:ErrAt en r er e) (hf:Fr [b] w w'):PrPost b en dp r w res e w':=by
 subst hr;exact⟨h,hf⟩
theorem PrPost.good {b en dp:Nat} {r:List Tk} {w:World} {res:PR} {w':World} {x:ET} {r':List Tk} {cs:Array Value} {d:Nat} (hr:res=.ok (x,r'.map Tk.te)) (hx:ExIn (fun g=>w.heap.size≤g) w' d x cs) (hs:r' <:+ r) (hp:PsAt b en dp r' w') (hf:Fr [b] w w') :
  PrPost b en dp r w res (.returned (.agg cs)) w':=by
 subst hr;exact⟨cs,d,r',rfl,hx,hs,rfl,hp,hf⟩
theorem PrPost.bad_out {b en dp:Nat} {r:List Tk} {w:World} {e:Ending} {w':World} {er:PErr} {res:PR} (hr:res=.error er) (h:PrPost b en dp r w res e w'):∃ x n,e=faulted x n∧ErrAt en r er (faulted x n)∧Fr [b] w w':=by
 subst hr;obtain⟨h1,h2⟩:=h;obtain⟨x,n,rfl⟩:=h1.ends;exact⟨x,n,rfl,h1,h2⟩
theorem PrPost.good_out {b en dp:Nat} {r:List Tk} {w:World} {e:Ending} {w':World} {x:ET} {l:List Te} {res:PR} (hr:res=.ok (x,l)) (h:PrPost b en dp r w res e w'):∃ na nl nc ia il ic ma ml mc ka kl kc d r',
  e=.returned (.agg #[.int .i64 x.kind,.string ⟨x.str.toArray⟩,.int .i64 x.v.kind,.int .i64 x.v.num,.float .f64 x.v.flt,.string ⟨x.v.str.toArray⟩,.slice na nl nc,.slice ia il ic,.slice ma ml mc,.slice ka kl kc]) ∧
  ExIn (fun g=>w.heap.size≤g) w' d x #[.int .i64 x.kind,.string ⟨x.str.toArray⟩,.int .i64 x.v.kind,.int .i64 x.v.num,.float .f64 x.v.flt,.string ⟨x.v.str.toArray⟩,.slice na nl nc,.slice ia il ic,.slice ma ml mc,.slice ka kl kc] ∧
  r' <:+ r∧r'.map Tk.te=l∧PsAt b en dp r' w'∧Fr [b] w w':=by
 subst hr;obtain⟨cs,d,r',h1,h2,h3,h4,h5,h6⟩:=h;obtain⟨na,nl,nc,ia,il,ic,ma,ml,mc,ka,kl,kc,rfl⟩:=h2.ten;exact⟨na,nl,nc,ia,il,ic,ma,ml,mc,ka,kl,kc,d,r',h1,h2,h3,h4,h5,h6⟩
theorem ExIn.wider {S T:Nat→Prop} {w:World} {d:Nat} {x:ET} {cs:Array Value} (h:ExIn S w d x cs) (hst:∀ g,S g→T g):ExIn T w d x cs :=
 h.kept (Nat.le_refl _) fun g hg _=>⟨hst g hg,rfl⟩
theorem zero_le {α:Type}:([]:List α).length≤140737488355328:=Nat.zero_le _
theorem StrsIn.nil (S:Nat→Prop) (w:World):StrsIn S w [] (.slice none 0 0):=⟨zero_le,fun _ h=>(nomatch h),.inl ⟨rfl,_,_,rfl⟩⟩
theorem noV_in (S:Nat→Prop) (w:World):∃ dv,ValIn S w (dv+1) noVT #[.int .i64 0,.int .i64 0,.float .f64 0,.string ⟨#[]⟩,.slice none 0 0,.slice none 0 0] :=
 ⟨0,_,_,rfl,(show(-9223372036854775808:Int)≤0∧(0:Int)≤9223372036854775807 by decide),(show(-9223372036854775808:Int)≤0∧(0:Int)≤9223372036854775807 by decide),(show(0:Nat)<18446744073709551616 by decide),zero_le,StrsIn.nil S w,zero_le,.inl ⟨rfl,_,_,rfl⟩⟩
/-- a node over kids that lie in a row -/
theorem ExIn.node {S:Nat→Prop} {w:World} {d:Nat} (k:Int) (s:List UInt8) (hk : -9223372036854775808≤k∧k≤9223372036854775807) (hs:s.length≤140737488355328) (xs:List ET) (hl:xs.length≤140737488355328) {g off cap:Nat} (hS:S g) (hg:g<w.heap.size)
  (hi:∀ i,i<xs.length→∃ ds,ExIn S w d (xs.getD i noET) ds∧∀ j,j<10→w.cell? ⟨g,off+i*10+j,none⟩=ds[j]?) :
  ExIn S w (d+1) (.mk k s noVT [] xs) #[.int .i64 k,.string ⟨s.toArray⟩,.int .i64 0,.int .i64 0,.float .f64 0,.string ⟨#[]⟩,.slice none 0 0,.slice none 0 0,.slice none 0 0,.slice (some ⟨g,off,none⟩) xs.length cap] :=
 ⟨_,_,_,_,rfl,hk,hs,noV_in S w,StrsIn.nil S w,hl,.inr ⟨g,off,cap,rfl,⟨hS,hg⟩,hi⟩⟩
/-- a leaf -/
theorem ExIn.leaf (S:Nat→Prop) (w:World) (k:Int) (s:List UInt8) (hk : -9223372036854775808≤k∧k≤9223372036854775807) (hs:s.length≤140737488355328) (vk vn:Int) (vf:Nat) (vs:List UInt8) (h1 : -9223372036854775808≤vk∧vk≤9223372036854775807) (h2 : -9223372036854775808≤vn∧vn≤9223372036854775807) (h3:F64 vf) (h4:vs.length≤140737488355328) :
  ExIn S w 1 (.mk k s (.mk vk vn vf vs [] []) [] []) #[.int .i64 k,.string ⟨s.toArray⟩,.int .i64 vk,.int .i64 vn,.float .f64 vf,.string ⟨vs.toArray⟩,.slice none 0 0,.slice none 0 0,.slice none 0 0,.slice none 0 0] :=
 ⟨_,_,_,_,rfl,hk,hs,⟨0,_,_,rfl,h1,h2,h3,h4,StrsIn.nil S w,zero_le,.inl ⟨rfl,_,_,rfl⟩⟩,StrsIn.nil S w,zero_le,.inl ⟨rfl,_,_,rfl⟩⟩
theorem wantK (s:List UInt8) (r:List Tk):wantS s (r.map Tk.te)=(match takeK [s] r with|some q=>.ok (q.2.map Tk.te)|none=>.error (.form r.length)):=by
 unfold wantS;rw[takeK_eq];cases takeK [s] r<;>simp
theorem takeK_suf {sg:List (List UInt8)} {r:List Tk} {q:Nat × List Tk} (h:takeK sg r=some q):q.2 <:+ r∧q.2.length<r.length:=by
 cases r with
 | nil=>cases h
 | cons t r =>
  rw[takeK]at h;split at h
  ·split at h
   ·cases h;exact⟨List.suffix_cons _ _,by simp⟩
   ·cases h
  ·cases h
theorem nameK_suf {r:List Tk} {q:List UInt8 × List Tk} (h:nameK r=some q):q.2 <:+ r∧q.2.length<r.length:=by
 cases r with
 | nil=>cases h
 | cons t r =>
  rw[nameK]at h;split at h
  ·cases h;exact⟨List.suffix_cons _ _,by simp⟩
  ·cases h
theorem nameK_short {b en dp:Nat} {r:List Tk} {w:World} (hp:PsAt b en dp r w) {q:List UInt8 × List Tk} (h:nameK r=some q):q.1.length≤10000:=by
 cases r with
 | nil=>cases h
 | cons t r =>
  rw[nameK]at h;split at h
  ·cases h
   obtain⟨_,_,v,⟨_,hok,_⟩,_⟩:=hp;exact(hok t (by simp)).2.2.1
  ·cases h
/-- the contract of a reading at such a depth -/
abbrev ReadsE (f:FuncId) (F:List Te→PR) (b en dp:Nat):Prop:=∀ (r:List Tk) (w:World),PsAt b en dp r w→Calls Tryz.prog f #[.pointer (some ⟨b,0,none⟩)] w (PrPost b en dp r w (F (r.map Tk.te)))
theorem wordF_none (E:List Te→PR) {r:List Tk} (h:nameK r=none):wordF E (r.map Tk.te)=.error (.form r.length):=by
 unfold wordF;rw[nameK_eq,h]
theorem wordF_some (E:List Te→PR) {r r2:List Tk} {s:List UInt8} (h:nameK r=some (s,r2)):wordF E (r.map Tk.te) =
  (if s=[116,114,117,101] then .ok (conE (.mk 1 1 0 [] [] []),r2.map Tk.te) else if s=[102,97,108,115,101] then .ok (conE (.mk 1 0 0 [] [] []),r2.map Tk.te)
  else match idxS callsB s with
  | none=>.ok (.mk 2 s noVT [] [],r2.map Tk.te)
  | some i=>match wantS [40] (r2.map Tk.te) with
   | .error e=>.error e
   | .ok r2=>match E r2 with
    | .error e=>.error e
    | .ok (x,r3)=>(match wantS [41] r3 with|.error e=>.error e|.ok r4=>.ok (oneE (20+(i:Int)) x,r4))):=by
 unfold wordF;rw[nameK_eq,h];rfl
theorem pword_1 (E:List Te→PR) (b en dp:Nat) (r:List Tk) (w:World) (h:PsAt b en dp r w) (hno:∀ q,nameK r=some q→q.1=[116,114,117,101]∨q.1=[102,97,108,115,101]∨idxS callsB q.1=none) :
  Calls Tryz.prog 177 #[.pointer (some ⟨b,0,none⟩)] w (PrPost b en dp r w (wordF E (r.map Tk.te))):=by
 have hsf:∀ (a:Addr) (x:Nat) (m:Mode) (w:World),(store a (.float .f64 x) m).run Tryz.prog w=stored Tryz.prog w a (.float .f64 x) m:=fun a x m w=>run_store _ w a _ m rfl
 have hA0:Below w.heap.size w (w.alloc (.cells #[.int .i64 0,.string ⟨#[]⟩,.int .i64 0,.int .i64 0,.float .f64 0,.string ⟨#[]⟩,.slice none 0 0,.slice none 0 0,.slice none 0 0,.slice none 0 0] 29)):=(Below.refl _ _).alloc (Nat.le_refl _) _;have hR0:=heap_alloc_new w (.cells #[.int .i64 0,.string ⟨#[]⟩,.int .i64 0,.int .i64 0,.float .f64 0,.string ⟨#[]⟩,.slice none 0 0,.slice none 0 0,.slice none 0 0,.slice none 0 0] 29);have hp0:=h.below hA0;have hlt:=h.lt;have hne:w.heap.size≠b:=by omega
 have HN:=zh (pname_any b en dp r _ hp0);rcases hn:nameK r with _|⟨s,r2⟩
 ·have hW:=zh (wordF_none E hn);rw[hn]at HN;unfold NmPost at HN;dsimp only at HN;go_in;go_wp2_with fail
  refine(HN.out).mono ?_;rintro e w1 ⟨rfl,hf1⟩;exact⟨rfl,PrPost.bad hW.out (ErrAt.here en r) ((Fr.of_below hA0).trans hf1)⟩
 ·have hW:=wordF_some E hn;have hsu:=(nameK_suf hn).1;have hsl:s.length≤10000:=nameK_short h hn;have hno:=hno _ hn;dsimp only at hsu hno;rw[hn]at HN;unfold NmPost at HN;dsimp only at HN;have HCa:=zh (fun w'=>pcalls_any w');by_cases s1:s=[116,114,117,101]
  ·rw[if_pos s1]at hW;subst s1;have HW:=zh hW;clear hW hn;go_in;go_wp2_with fail
   refine(HN.out).mono ?_;rintro e w1 ⟨rfl,hp1,hf1⟩;have hR1:=hf1.at hR0 (by simpa using hne);obtain⟨z0,z1,z2,z3,z4,z5,z6,z7,z8,z9⟩:=free10 hR1;obtain⟨x0,x1,x2,x3,x4,x5,x6,x7,x8,x9⟩:=cellsO10 hR1;have hw1:Fr [b] w w1:=(Fr.of_below hA0).trans hf1;go_wp2_with fail
   obtain⟨hst,hff⟩:=put10 hR1 (.int .i64 1) (.string ⟨#[]⟩) (.int .i64 1) (.int .i64 1) (.float .f64 0) (.string ⟨#[]⟩) (.slice none 0 0) (.slice none 0 0) (.slice none 0 0) (.slice none 0 0);generalize ((((((((((w1).setCell ⟨w.heap.size,0,none⟩ (.int .i64 1)).setCell ⟨w.heap.size,1,none⟩ (.string ⟨#[]⟩)).setCell ⟨w.heap.size,2,none⟩ (.int .i64 1)).setCell ⟨w.heap.size,3,none⟩ (.int .i64 1)).setCell ⟨w.heap.size,4,none⟩ (.float .f64 0)).setCell ⟨w.heap.size,5,none⟩ (.string ⟨#[]⟩)).setCell ⟨w.heap.size,6,none⟩ (.slice none 0 0)).setCell ⟨w.heap.size,7,none⟩ (.slice none 0 0)).setCell ⟨w.heap.size,8,none⟩ (.slice none 0 0)).setCell ⟨w.heap.size,9,none⟩ (.slice none 0 0)=Z at *;obtain⟨y0,y1,y2,y3,y4,y5,y6,y7,y8,y9⟩:=cellsO10 hst;refine bodyPost_ret (v:=.agg #[.int .i64 1,.string ⟨#[]⟩,.int .i64 1,.int .i64 1,.float .f64 0,.string ⟨#[]⟩,.slice none 0 0,.slice none 0 0,.slice none 0 0,.slice none 0 0]) (by simp[results,Tryz.results177,go_sem,y0,y1,y2,y3,y4,y5,y6,y7,y8,y9]) rfl ?_;have hzB:Below w.heap.size w1 Z:=hff.below (Nat.le_trans (by simp) hf1.size) (by simp);exact PrPost.good HW.out (ExIn.leaf _ _ 1 [] (by decide) (by decide) 1 1 0 [] (by decide) (by decide) (by show(0:Nat)<_;decide) (by decide)) hsu (hp1.fr hff (by simp;omega)) (hw1.lower hzB)
  ·rw[if_neg s1]at hW;have t1:(s==[116,114,117,101])=false:=beq_eq_false_iff_ne.2 s1;by_cases s2:s=[102,97,108,115,101]
   ·rw[if_pos s2]at hW;subst s2;have HW:=zh hW;clear hW hn;go_in;go_wp2_with fail
    refine(HN.out).mono ?_;rintro e w1 ⟨rfl,hp1,hf1⟩;have hR1:=hf1.at hR0 (by simpa using hne);obtain⟨z0,z1,z2,z3,z4,z5,z6,z7,z8,z9⟩:=free10 hR1;obtain⟨x0,x1,x2,x3,x4,x5,x6,x7,x8,x9⟩:=cellsO10 hR1;have hw1:Fr [b] w w1:=(Fr.of_below hA0).trans hf1;go_wp2_with fail
    obtain⟨hst,hff⟩:=put10 hR1 (.int .i64 1) (.string ⟨#[]⟩) (.int .i64 1) (.int .i64 0) (.float .f64 0) (.string ⟨#[]⟩) (.slice none 0 0) (.slice none 0 0) (.slice none 0 0) (.slice none 0 0);generalize ((((((((((w1).setCell ⟨w.heap.size,0,none⟩ (.int .i64 1)).setCell ⟨w.heap.size,1,none⟩ (.string ⟨#[]⟩)).setCell ⟨w.heap.size,2,none⟩ (.int .i64 1)).setCell ⟨w.heap.size,3,none⟩ (.int .i64 0)).setCell ⟨w.heap.size,4,none⟩ (.float .f64 0)).setCell ⟨w.heap.size,5,none⟩ (.string ⟨#[]⟩)).setCell ⟨w.heap.size,6,none⟩ (.slice none 0 0)).setCell ⟨w.heap.size,7,none⟩ (.slice none 0 0)).setCell ⟨w.heap.size,8,none⟩ (.slice none 0 0)).setCell ⟨w.heap.size,9,none⟩ (.slice none 0 0)=Z at *;obtain⟨y0,y1,y2,y3,y4,y5,y6,y7,y8,y9⟩:=cellsO10 hst;refine bodyPost_ret (v:=.agg #[.int .i64 1,.string ⟨#[]⟩,.int .i64 1,.int .i64 0,.float .f64 0,.string ⟨#[]⟩,.slice none 0 0,.slice none 0 0,.slice none 0 0,.slice none 0 0]) (by simp[results,Tryz.results177,go_sem,y0,y1,y2,y3,y4,y5,y6,y7,y8,y9]) rfl ?_;have hzB:Below w.heap.size w1 Z:=hff.below (Nat.le_trans (by simp) hf1.size) (by simp);exact PrPost.good HW.out (ExIn.leaf _ _ 1 [] (by decide) (by decide) 1 0 0 [] (by decide) (by decide) (by show(0:Nat)<_;decide) (by decide)) hsu (hp1.fr hff (by simp;omega)) (hw1.lower hzB)
   ·rw[if_neg s2]at hW;have t2:(s==[102,97,108,115,101])=false:=beq_eq_false_iff_ne.2 s2;have hix:idxS callsB s=none:=by
     rcases hno with hno|hno|hno
     ·exact absurd hno s1
     ·exact absurd hno s2
     ·exact hno
    rw[hix]at hW;have hI:ixI callsB s = -1:=by unfold ixI;rw[hix]
    have HIx:=zh (fun g w' hc=>hI ▸ index_any callsB s g 0 4 (by decide) w' hc);have HW:=zh hW;clear hW hn hno hix hI;go_in;go_wp2_with fail
    refine(HN.out).mono ?_;rintro e w1 ⟨rfl,hp1,hf1⟩;have hR1:=hf1.at hR0 (by simpa using hne);obtain⟨z0,z1,z2,z3,z4,z5,z6,z7,z8,z9⟩:=free10 hR1;obtain⟨x0,x1,x2,x3,x4,x5,x6,x7,x8,x9⟩:=cellsO10 hR1;have hw1:Fr [b] w w1:=(Fr.of_below hA0).trans hf1;go_wp2_with fail
    refine(HCa.out _).mono ?_;rintro e w2 ⟨G,rfl,hG,hb2⟩;go_wp2_with fail
    refine(HIx.out G w2 (fun i hi=>?_)).mono ?_
    ·have:i=0∨i=1∨i=2∨i=3:=by have:i<4:=hi;omega
     rw[zc hG];rcases this with rfl|rfl|rfl|rfl<;>rfl
    rintro e w3 ⟨rfl,rfl⟩;have hR2:=(hb2.block _ (lt_of_block hR1)).trans hR1;clear z0 z1 z2 z3 z4 z5 z6 z7 z8 z9 x0 x1 x2 x3 x4 x5 x6 x7 x8 x9;obtain⟨z0,z1,z2,z3,z4,z5,z6,z7,z8,z9⟩:=free10 hR2;obtain⟨x0,x1,x2,x3,x4,x5,x6,x7,x8,x9⟩:=cellsO10 hR2;have hp2:=hp1.below hb2;go_wp2_with fail
    obtain⟨hst,hff⟩:=put10 hR2 (.int .i64 2) (.string ⟨s.toArray⟩) (.int .i64 0) (.int .i64 0) (.float .f64 0) (.string ⟨#[]⟩) (.slice none 0 0) (.slice none 0 0) (.slice none 0 0) (.slice none 0 0);generalize ((((((((((w2).setCell ⟨w.heap.size,0,none⟩ (.int .i64 2)).setCell ⟨w.heap.size,1,none⟩ (.string ⟨s.toArray⟩)).setCell ⟨w.heap.size,2,none⟩ (.int .i64 0)).setCell ⟨w.heap.size,3,none⟩ (.int .i64 0)).setCell ⟨w.heap.size,4,none⟩ (.float .f64 0)).setCell ⟨w.heap.size,5,none⟩ (.string ⟨#[]⟩)).setCell ⟨w.heap.size,6,none⟩ (.slice none 0 0)).setCell ⟨w.heap.size,7,none⟩ (.slice none 0 0)).setCell ⟨w.heap.size,8,none⟩ (.slice none 0 0)).setCell ⟨w.heap.size,9,none⟩ (.slice none 0 0)=Z at *;obtain⟨y0,y1,y2,y3,y4,y5,y6,y7,y8,y9⟩:=cellsO10 hst;refine bodyPost_ret (v:=.agg #[.int .i64 2,.string ⟨s.toArray⟩,.int .i64 0,.int .i64 0,.float .f64 0,.string ⟨#[]⟩,.slice none 0 0,.slice none 0 0,.slice none 0 0,.slice none 0 0]) (by simp[results,Tryz.results177,go_sem,y0,y1,y2,y3,y4,y5,y6,y7,y8,y9]) rfl ?_;have hzB:Below w.heap.size w2 Z:=hff.below (Nat.le_trans hw1.size hb2.size) (by simp);exact PrPost.good HW.out (ExIn.leaf _ _ 2 s (by decide) (by omega) 0 0 0 [] (by decide) (by decide) (by show(0:Nat)<_;decide) (by decide)) hsu (hp2.fr hff (by simp;omega)) ((hw1.grow hw1.size hb2).lower hzB)
theorem ptake_no {b en dp:Nat} {r:List Tk} {sg:List (List UInt8)} (gs os cap:Nat) (hN:sg.length≤1000) {w:World} (h:PsAt b en dp r w) (hgs:gs<w.heap.size) (hts:∀ i,i<sg.length→w.cell? ⟨gs,os+i,none⟩=some (.string ⟨(sg.getD i []).toArray⟩)) (hk:takeK sg r=none) :
  Calls Tryz.prog 64 #[.pointer (some ⟨b,0,none⟩),.slice (some ⟨gs,os,none⟩) sg.length cap] w fun e w'=>e=.returned (.int .i64 (-1))∧PsAt b en dp r w'∧Fr [b] w w':=by
 have:=ptake_any b en dp r sg gs os cap hN w h hgs hts;rw[hk]at this;exact this
theorem ptake_yes {b en dp:Nat} {r:List Tk} {sg:List (List UInt8)} (gs os cap:Nat) (hN:sg.length≤1000) {w:World} (h:PsAt b en dp r w) (hgs:gs<w.heap.size) (hts:∀ i,i<sg.length→w.cell? ⟨gs,os+i,none⟩=some (.string ⟨(sg.getD i []).toArray⟩)) {q:Nat × List Tk} (hk:takeK sg r=some q) :
  Calls Tryz.prog 64 #[.pointer (some ⟨b,0,none⟩),.slice (some ⟨gs,os,none⟩) sg.length cap] w fun e w'=>e=.returned (.int .i64 (q.1:Nat))∧PsAt b en dp q.2 w'∧Fr [b] w w':=by
 have:=ptake_any b en dp r sg gs os cap hN w h hgs hts;rw[hk]at this;exact this
theorem pwant_no {b en dp:Nat} {r:List Tk} (s:List UInt8) {w:World} (h:PsAt b en dp r w) (hk:takeK [s] r=none) :
  Calls Tryz.prog 65 #[.pointer (some ⟨b,0,none⟩),.string ⟨s.toArray⟩] w fun e w'=>e=faulted 5 (posN en r)∧Fr [b] w w':=by
 have:=pwant_any b en dp r s w h;rw[hk]at this;exact this
theorem pwant_yes {b en dp:Nat} {r:List Tk} (s:List UInt8) {w:World} (h:PsAt b en dp r w) {q:Nat × List Tk} (hk:takeK [s] r=some q) :
  Calls Tryz.prog 65 #[.pointer (some ⟨b,0,none⟩),.string ⟨s.toArray⟩] w fun e w'=>e=.returned (.tuple #[])∧PsAt b en dp q.2 w'∧Fr [b] w w':=by
 have:=pwant_any b en dp r s w h;rw[hk]at this;exact this
theorem pname_no {b en dp:Nat} {r:List Tk} {w:World} (h:PsAt b en dp r w) (hk:nameK r=none) :
  Calls Tryz.prog 152 #[.pointer (some ⟨b,0,none⟩)] w fun e w'=>e=faulted 5 (posN en r)∧Fr [b] w w':=by
 have:=pname_any b en dp r w h;rw[hk]at this;exact this
theorem pname_yes {b en dp:Nat} {r:List Tk} {w:World} (h:PsAt b en dp r w) {q:List UInt8 × List Tk} (hk:nameK r=some q) :
  Calls Tryz.prog 152 #[.pointer (some ⟨b,0,none⟩)] w fun e w'=>e=.returned (.string ⟨q.1.toArray⟩)∧PsAt b en dp q.2 w'∧Fr [b] w w':=by
 have:=pname_any b en dp r w h;rw[hk]at this;exact this
theorem idxS_lt {sg:List (List UInt8)} {s:List UInt8} {i:Nat} (h:idxS sg s=some i):i<sg.length:=by
 unfold idxS at h;split at h
 ·rename_i hm;cases h
  exact List.idxOf_lt_length_of_mem (by simpa using hm)
 ·cases h
theorem two_boxes (w:World) (A B:Obj):Below w.heap.size w ((w.alloc A).alloc B)∧((w.alloc A).alloc B).heap[w.heap.size]?=some A∧((w.alloc A).alloc B).heap[w.heap.size+1]?=some B:=by
 have h1:=heap_alloc_new w A;have h2:=heap_alloc_new (w.alloc A) B;have e:(w.alloc A).heap.size=w.heap.size+1:=by simp
 have hb:=(Below.refl (w.alloc A).heap.size (w.alloc A)).alloc (Nat.le_refl _) B;rw[e]at h2 hb;exact⟨((Below.refl w.heap.size w).alloc (Nat.le_refl _) A).trans (hb.mono (by omega)),(hb.block _ (by omega)).trans h1,h2⟩
/-- one kid -/
theorem ExIn.one {S:Nat→Prop} {w:World} {d:Nat} {x:ET} {cs:Array Value} (k:Int) (hk : -9223372036854775808≤k∧k≤9223372036854775807) (h:ExIn S w d x cs) {g:Nat} {T:TypeId} {fz:Nat × Nat} (hS:S g) (hg:w.heap[g]?=some (.cells cs T fz)) :
  ExIn S w (d+1) (oneE k x) #[.int .i64 k,.string ⟨#[]⟩,.int .i64 0,.int .i64 0,.float .f64 0,.string ⟨#[]⟩,.slice none 0 0,.slice none 0 0,.slice none 0 0,.slice (some ⟨g,0,none⟩) 1 1] :=
 ExIn.node k [] hk zero_le [x] (by simp) hS (lt_of_block hg) fun i hi=>by
  obtain rfl:i=0:=by simpa using hi
  exact⟨cs,h,fun j _=>by rw[zc hg];simp⟩
theorem pword_2 (E:List Te→PR) (b en dp:Nat) (r r2:List Tk) (s:List UInt8) (i:Nat) (w:World) (HE:ReadsE 32 E b en dp) (h:PsAt b en dp r w) (hn:nameK r=some (s,r2)) (h1:¬ s=[116,114,117,101]) (h2:¬ s=[102,97,108,115,101]) (hix:idxS callsB s=some i) :
  Calls Tryz.prog 177 #[.pointer (some ⟨b,0,none⟩)] w (PrPost b en dp r w (wordF E (r.map Tk.te))):=by
 have hsf:∀ (a:Addr) (x:Nat) (m:Mode) (w:World),(store a (.float .f64 x) m).run Tryz.prog w=stored Tryz.prog w a (.float .f64 x) m:=fun a x m w=>run_store _ w a _ m rfl
 have hA0:Below w.heap.size w (w.alloc (.cells #[.int .i64 0,.string ⟨#[]⟩,.int .i64 0,.int .i64 0,.float .f64 0,.string ⟨#[]⟩,.slice none 0 0,.slice none 0 0,.slice none 0 0,.slice none 0 0] 29)):=(Below.refl _ _).alloc (Nat.le_refl _) _;have hR0:=heap_alloc_new w (.cells #[.int .i64 0,.string ⟨#[]⟩,.int .i64 0,.int .i64 0,.float .f64 0,.string ⟨#[]⟩,.slice none 0 0,.slice none 0 0,.slice none 0 0,.slice none 0 0] 29);have hp0:=h.below hA0;have hlt:=h.lt;have hne:w.heap.size≠b:=by omega
 have HN:=zh (pname_yes hp0 hn);have hW:=wordF_some E hn;rw[if_neg h1,if_neg h2,hix]at hW;dsimp only at hW;rw[wantK]at hW;have hsu:=(nameK_suf hn).1;have HCa:=zh (fun w'=>pcalls_any w');have t1:(s==[116,114,117,101])=false:=beq_eq_false_iff_ne.2 h1;have t2:(s==[102,97,108,115,101])=false:=beq_eq_false_iff_ne.2 h2;have hI:ixI callsB s=(i:Int):=by unfold ixI;rw[hix]
 have HIx:=zh (fun g w' hc=>hI ▸ index_any callsB s g 0 4 (by decide) w' hc);have hi4:i<4:=idxS_lt hix;have t3:¬ (i:Int)<0:=by omega
 have hwr:IntKind.i64.wrap (20+(i:Int))=20+(i:Int):=by rw[IntKind.wrap_i64];omega
 have HEx:=zh HE;dsimp only at hsu;clear hn hI hix HE;rcases hk1:takeK [[40]] r2 with _|q1
 ·rw[hk1]at hW;have HW:=zh hW;have HWn:=zh (fun w' h=>pwant_no (b:=b) (en:=en) (dp:=dp) [40] (w:=w') h hk1);clear hW hk1;go_in;go_wp2_with fail
  refine(HN.out).mono ?_;rintro e w1 ⟨rfl,hp1,hf1⟩;have hw1:Fr [b] w w1:=(Fr.of_below hA0).trans hf1;go_wp2_with fail
  refine(HCa.out _).mono ?_;rintro e w2 ⟨G,rfl,hG,hb2⟩;go_wp2_with fail
  refine(HIx.out G w2 (fun i hi=>?_)).mono ?_
  ·have:i=0∨i=1∨i=2∨i=3:=by have:i<4:=hi;omega
   rw[zc hG];rcases this with rfl|rfl|rfl|rfl<;>rfl
  rintro e w3 ⟨rfl,rfl⟩;go_wp2_with fail
  refine(HWn.out _ (hp1.below hb2)).mono ?_;rintro e w3 ⟨rfl,hf3⟩;exact⟨rfl,PrPost.bad HW.out ((ErrAt.here en r2).up hsu) ((hw1.grow hw1.size hb2).trans hf3)⟩
 ·rw[hk1]at hW;obtain⟨j,r3⟩:=q1;have hs3:=(takeK_suf hk1).1;have HWy:=zh (fun w' h=>pwant_yes (b:=b) (en:=en) (dp:=dp) [40] (w:=w') h hk1);clear hk1;dsimp only at hW hs3 HWy;rcases he:E (r3.map Tk.te)with er|⟨x,l4⟩
  ·rw[he]at hW;have HW:=zh hW;have HEE:=zh he;clear hW he;go_in;go_wp2_with fail
   refine(HN.out).mono ?_;rintro e w1 ⟨rfl,hp1,hf1⟩;have hw1:Fr [b] w w1:=(Fr.of_below hA0).trans hf1;go_wp2_with fail
   refine(HCa.out _).mono ?_;rintro e w2 ⟨G,rfl,hG,hb2⟩;go_wp2_with fail
   refine(HIx.out G w2 (fun i hi=>?_)).mono ?_
   ·have:i=0∨i=1∨i=2∨i=3:=by have:i<4:=hi;omega
    rw[zc hG];rcases this with rfl|rfl|rfl|rfl<;>rfl
   rintro e w3 ⟨rfl,rfl⟩;go_wp2_with fail
   refine(HWy.out _ (hp1.below hb2)).mono ?_;rintro e w3 ⟨rfl,hp3,hf3⟩;go_wp2_with fail
   refine(HEx.out _ _ hp3).mono ?_;intro e w4 h4;obtain⟨x,n,rfl,h4,hf4⟩:=PrPost.bad_out HEE.out h4;exact⟨rfl,PrPost.bad HW.out (h4.up (hs3.trans hsu)) (((hw1.grow hw1.size hb2).trans hf3).trans hf4)⟩
  ·rw[he]at hW;dsimp only at hW;have HW1:=zh hW;have HEE:=zh he;clear hW he;go_in;go_wp2_with fail
   refine(HN.out).mono ?_;rintro e w1 ⟨rfl,hp1,hf1⟩;have hR1:=hf1.at hR0 (by simpa using hne);have hw1:Fr [b] w w1:=(Fr.of_below hA0).trans hf1;go_wp2_with fail
   refine(HCa.out _).mono ?_;rintro e w2 ⟨G,rfl,hG,hb2⟩;go_wp2_with fail
   refine(HIx.out G w2 (fun i hi=>?_)).mono ?_
   ·have:i=0∨i=1∨i=2∨i=3:=by have:i<4:=hi;omega
    rw[zc hG];rcases this with rfl|rfl|rfl|rfl<;>rfl
   rintro e w3 ⟨rfl,rfl⟩;go_wp2_with fail
   refine(HWy.out _ (hp1.below hb2)).mono ?_;rintro e w3 ⟨rfl,hp3,hf3⟩;have hw2:=hw1.grow hw1.size hb2;have hw3':=hw2.trans hf3;have hR3:=hf3.at ((hb2.block _ (lt_of_block hR1)).trans hR1) (by simpa using hne);have hRl3:=lt_of_block hR3;go_wp2_with fail
   refine(HEx.out _ _ hp3).mono ?_;intro e w4 h4;obtain⟨na,nl,nc,ia,il,ic,ma,ml,mc,ka,kl,kc,d,r4,rfl,hx,hs4,hl4,hp4,hf4⟩:=PrPost.good_out HEE.out h4;have hR4:=hf4.at hR3 (by simpa using hne);have hw4:=hw3'.trans hf4;subst hl4;have hW2:=HW1.out;rw[wantK]at hW2;obtain⟨hbb,hk4,hn4⟩:=two_boxes w4 (.cells #[.int .i64 x.kind,.string ⟨x.str.toArray⟩,.int .i64 x.v.kind,.int .i64 x.v.num,.float .f64 x.v.flt,.string ⟨x.v.str.toArray⟩,.slice na nl nc,.slice ia il ic,.slice ma ml mc,.slice ka kl kc] 29) (.cells #[.int .i64 (20+(i:Int)),.string ⟨#[]⟩,.int .i64 0,.int .i64 0,.float .f64 0,.string ⟨#[]⟩,.slice none 0 0,.slice none 0 0,.slice none 0 0,.slice (some ⟨w4.heap.size,0,none⟩) 1 1] 29);have hx5:=(ExIn.one (20+(i:Int)) (by omega) (hx.below hbb) (g:=w4.heap.size) hf4.size hk4);have hp5:=hp4.below hbb;have hR5:=(hbb.block _ (lt_of_block hR4)).trans hR4;go_upto_region 12 with (fail)
   generalize ((w4.alloc (.cells #[.int .i64 x.kind,.string ⟨x.str.toArray⟩,.int .i64 x.v.kind,.int .i64 x.v.num,.float .f64 x.v.flt,.string ⟨x.v.str.toArray⟩,.slice na nl nc,.slice ia il ic,.slice ma ml mc,.slice ka kl kc] 29)).alloc (.cells #[.int .i64 (20+(i:Int)),.string ⟨#[]⟩,.int .i64 0,.int .i64 0,.float .f64 0,.string ⟨#[]⟩,.slice none 0 0,.slice none 0 0,.slice none 0 0,.slice (some ⟨w4.heap.size,0,none⟩) 1 1] 29))=w5 at *;clear hk4 hx;rcases hk2:takeK [[41]] r4 with _|q2
   ·rw[hk2]at hW2;have HW:=zh hW2;have HWn:=zh (pwant_no [41] hp5 hk2);clear hk2 hW2;go_wp2_with fail
    refine(HWn.out).mono ?_;rintro e w6 ⟨rfl,hf6⟩;exact⟨rfl,PrPost.bad HW.out ((ErrAt.here en r4).up (hs4.trans (hs3.trans hsu))) ((hw4.grow hw4.size hbb).trans hf6)⟩
   ·rw[hk2]at hW2;obtain⟨j2,r6⟩:=q2;have hs6:=(takeK_suf hk2).1;have HW:=zh hW2;have HWn:=zh (pwant_yes [41] hp5 hk2);dsimp only at hs6 HW HWn;clear hk2 hW2;go_wp2_with fail
    refine(HWn.out).mono ?_;rintro e w6 ⟨rfl,hp6,hf6⟩;have hR6:=hf6.at hR5 (by simpa using hne);have hsz4:w3.heap.size≤w4.heap.size:=hf4.size;have hn6:=hf6.at hn4 (by simp;omega);obtain⟨z0,z1,z2,z3,z4,z5,z6,z7,z8,z9⟩:=free10 hR6;obtain⟨x0,x1,x2,x3,x4,x5,x6,x7,x8,x9⟩:=cellsO10 hR6;obtain⟨c0,c1,c2,c3,c4,c5,c6,c7,c8,c9⟩:=cellsO10 hn6;have hne2:¬ w4.heap.size+1=w.heap.size:=by omega
    go_wp2_with fail
    obtain⟨hst,hff⟩:=put10 hR6 (.int .i64 (20+(i:Int))) (.string ⟨#[]⟩) (.int .i64 0) (.int .i64 0) (.float .f64 0) (.string ⟨#[]⟩) (.slice none 0 0) (.slice none 0 0) (.slice none 0 0) (.slice (some ⟨w4.heap.size,0,none⟩) 1 1);generalize ((((((((((w6).setCell ⟨w.heap.size,0,none⟩ (.int .i64 (20+(i:Int)))).setCell ⟨w.heap.size,1,none⟩ (.string ⟨#[]⟩)).setCell ⟨w.heap.size,2,none⟩ (.int .i64 0)).setCell ⟨w.heap.size,3,none⟩ (.int .i64 0)).setCell ⟨w.heap.size,4,none⟩ (.float .f64 0)).setCell ⟨w.heap.size,5,none⟩ (.string ⟨#[]⟩)).setCell ⟨w.heap.size,6,none⟩ (.slice none 0 0)).setCell ⟨w.heap.size,7,none⟩ (.slice none 0 0)).setCell ⟨w.heap.size,8,none⟩ (.slice none 0 0)).setCell ⟨w.heap.size,9,none⟩ (.slice (some ⟨w4.heap.size,0,none⟩) 1 1)=Z at *;obtain⟨y0,y1,y2,y3,y4,y5,y6,y7,y8,y9⟩:=cellsO10 hst;refine bodyPost_ret (v:=.agg #[.int .i64 (20+(i:Int)),.string ⟨#[]⟩,.int .i64 0,.int .i64 0,.float .f64 0,.string ⟨#[]⟩,.slice none 0 0,.slice none 0 0,.slice none 0 0,.slice (some ⟨w4.heap.size,0,none⟩) 1 1]) (by simp[results,Tryz.results177,go_sem,y0,y1,y2,y3,y4,y5,y6,y7,y8,y9]) rfl ?_;have hzB:Below w.heap.size w6 Z:=hff.below (Nat.le_trans hw4.size (Nat.le_trans hbb.size hf6.size)) (by simp);have hx6:=hx5.fr hf6 (l:=[b]) (by simp;omega);exact PrPost.good HW.out ((hx6.fr hff (by simp;omega)).wider (fun g hg=>Nat.le_trans hw3'.size hg)) (hs6.trans (hs4.trans (hs3.trans hsu))) (hp6.fr hff (by simp;omega)) (((hw4.grow hw4.size hbb).trans hf6).lower hzB)
theorem pword_any (E:List Te→PR) (b en dp:Nat) (HE:ReadsE 32 E b en dp):ReadsE 177 (wordF E) b en dp:=fun r w h=>by
 rcases hn:nameK r with _|⟨s,r2⟩
 ·exact pword_1 E b en dp r w h fun q hq=>by rw[hn]at hq;cases hq
 ·by_cases h1:s=[116,114,117,101]
  ·exact pword_1 E b en dp r w h fun q hq=>by rw[hn]at hq;cases hq;exact .inl h1
  ·by_cases h2:s=[102,97,108,115,101]
   ·exact pword_1 E b en dp r w h fun q hq=>by rw[hn]at hq;cases hq;exact .inr (.inl h2)
   ·rcases hi:idxS callsB s with _|i
    ·exact pword_1 E b en dp r w h fun q hq=>by rw[hn]at hq;cases hq;exact .inr (.inr hi)
    ·exact pword_2 E b en dp r r2 s i w HE h hn h1 h2 hi
end
section
open Go.RowKit
structure RowsE (P f:Nat) (ns:List (List UInt8)) (its:List ET) (pn pi:Value) (w:World):Prop where
 hn:w.ownsRow (P+1) 9 1 pn ns.length (ns.map fun s=>.string ⟨s.toArray⟩)
 hi:∃ xs,w.ownsRow (P+1) 29 10 pi its.length xs∧∀ i,i<its.length→∃ ds,ds.size=10∧ExIn (Sep P pn pi) w f (its.getD i noET) ds∧∀ j,j<10→xs[i*10+j]?=ds[j]?
 ne:∀ g,pn.ownBlock=some g→pi.ownBlock≠some g
theorem RowsE.nil (P f:Nat) (w:World):RowsE P f [] [] (.slice none 0 0) (.slice none 0 0) w :=
 ⟨World.ownsRow_nil _ _ _ _,⟨[],World.ownsRow_nil _ _ _ _,fun i hi=>by simp at hi⟩,fun g hg=>by simp[Value.ownBlock]at hg⟩
theorem ExIn.grown {S T:Nat→Prop} {w w':World} {row:Option Nat} (hg:w.grownBy w' row) (hk:∀ g,S g→g<w.heap.size→T g∧some g≠row) {d:Nat} {v:ET} {cs:Array Value} (h:ExIn S w d v cs):ExIn T w' d v cs :=
 h.kept hg.size fun g h1 h2=>⟨(hk g h1 h2).1,hg.block g h2 (hk g h1 h2).2⟩
/-- what changes no block behind P -/
theorem RowsE.far {P f:Nat} {ns:List (List UInt8)} {its:List ET} {pn pi:Value} {w w':World} {b:Nat} (h:RowsE P f ns its pn pi w) (hg:w.grownBy w' (some b)) (hb:b≤P):RowsE P f ns its pn pi w':=by
 obtain⟨hn,⟨xs,h1,h2⟩,ne⟩:=h;have keep:∀ {e:TypeId} {size:Nat} {v:Value} {n:Nat} {xs:List Value},w.ownsRow (P+1) e size v n xs→w'.ownsRow (P+1) e size v n xs:=fun h=>h.kept hg (by
  rcases hv:Value.ownBlock _ with _|k
  ·exact .inl rfl
  ·right;have:=own_lt h hv;intro e;injection e;omega)
 refine⟨keep hn,⟨xs,keep h1,fun i hi=>?_⟩,ne⟩;obtain⟨ds,d1,d2,d3⟩:=h2 i hi;exact⟨ds,d1,d2.grown hg fun g hS _=>⟨hS,fun e=>by injection e;have:=hS.1;omega⟩,d3⟩
theorem RowsE.item {P f:Nat} {ns:List (List UInt8)} {its:List ET} {pn pi:Value} {w w':World} {v:ET} {ds:Array Value} {g cap H:Nat} {xs:List Value} (h:RowsE P f ns its pn pi w)
  (hx:w.ownsRow (P+1) 29 10 pi its.length xs) (hd:ds.size=10) (hv:ExIn (Sep P pn pi) w f v ds)
  (hown:w'.ownsRow (P+1) 29 10 (.slice (some ⟨g,0,none⟩) (its.length+1) cap) (its.length+1) (xs++ds.toList))
  (hgr:w.grownBy w' pi.ownBlock) (hat:pi.ownBlock=some g∨g=H) (hH:w.heap.size≤H):RowsE P f ns (its++[v]) pn (.slice (some ⟨g,0,none⟩) (its.length+1) cap) w':=by
 obtain⟨hn,⟨ys,h1,h2⟩,ne⟩:=h;have hyx:ys=xs:=by
  rcases h1.2 with ⟨e1,e2⟩|⟨g1,cap1,cur1,e1,_,e3,_,_,_,e7⟩
  ·rcases hx.2 with ⟨_,_⟩|⟨g2,cap2,cur2,k1,_⟩
   ·have a:=h1.1;have b:=hx.1;rw[e2]at a b;simp at a b;rw[a,b]
   ·rw[e1]at k1;cases k1
  ·rcases hx.2 with ⟨k1,_⟩|⟨g2,cap2,cur2,k1,_,k3,_,_,_,k7⟩
   ·rw[e1]at k1;cases k1
   ·rw[e1]at k1;injection k1 with k1
    injection k1 with k1
    injection k1 with k1
    subst k1;rw[e3]at k3;injection k3 with k3
    injection k3 with k3
    subst k3;rw[←e7,←k7]
 subst hyx;have hpn:∀ k,pn.ownBlock=some k→k<w.heap.size∧pi.ownBlock≠some k:=fun k hk=>⟨(own_lt hn hk).2,ne k hk⟩
 have keep:∀ {x:ET} {cs:Array Value},ExIn (Sep P pn pi) w f x cs→ExIn (Sep P pn (.slice (some ⟨g,0,none⟩) (its.length+1) cap)) w' f x cs:=fun h=>h.grown hgr fun k hS hk=>⟨⟨hS.1,hS.2.1,fun e=>by
  simp[Value.ownBlock]at e;subst e;rcases hat with hat|hat
  ·exact hS.2.2 hat
  ·omega⟩,fun e=>hS.2.2 e.symm⟩
 have hl:ys.length=its.length*10:=h1.1;refine⟨hn.kept hgr ?_,⟨ys++ds.toList,by simpa using hown,fun i hi=>?_⟩,fun k hk e=>?_⟩
 ·rcases hv':pn.ownBlock with _|k
  ·exact .inl rfl
  ·exact .inr fun e=>(hpn k hv').2 e.symm
 ·rw[List.length_append]at hi;by_cases hlt:i<its.length
  ·obtain⟨cs,d1,d2,d3⟩:=h2 i hlt;refine⟨cs,d1,?_,fun j hj=>?_⟩
   ·rw[show(its++[v]).getD i noET=its.getD i noET by simp[List.getD,List.getElem?_append_left hlt]];exact keep d2
   ·rw[List.getElem?_append_left (by omega)];exact d3 j hj
  ·have hi':i=its.length:=by simp at hi;omega
   subst hi';refine⟨ds,hd,?_,fun j hj=>?_⟩
   ·rw[show(its++[v]).getD its.length noET=v by simp[List.getD]];exact keep hv
   ·rw[List.getElem?_append_right (by omega),show its.length*10+j - ys.length=j by omega];simp
 ·simp[Value.ownBlock]at e;subst e;obtain⟨k1,k2⟩:=hpn _ hk;rcases hat with hat|hat
  ·exact k2 hat
  ·omega
/-- the node that the rows make -/
theorem RowsE.node {P f:Nat} {ns:List (List UInt8)} {its:List ET} {pn pi:Value} {w:World} (h:RowsE P f ns its pn pi w) {K:Int} (hK : -9223372036854775808≤K∧K≤9223372036854775807)
  (h1:ns.length≤100000) (h2:∀ s ∈ ns,s.length≤100000) (h3:its.length≤100000):ExIn (fun g=>P<g) w (f+1) (.mk K [] noVT ns its) #[.int .i64 K,.string ⟨#[]⟩,.int .i64 0,.int .i64 0,.float .f64 0,.string ⟨#[]⟩,.slice none 0 0,.slice none 0 0,pn,pi]:=by
 obtain⟨hn,⟨xs,hx,hc⟩,_⟩:=h;refine⟨_,_,pn,pi,rfl,hK,zero_le,noV_in _ w,⟨Nat.le_trans h1 (by decide),fun s hs=>Nat.le_trans (h2 s hs) (by decide),?_⟩,Nat.le_trans h3 (by decide),?_⟩
 ·rcases hn.2 with ⟨e1,e2⟩|⟨g,cap,cur,e1,e2,e3,_⟩
  ·exact .inl ⟨List.length_eq_zero_iff.1 e2,_,_,e1⟩
  ·subst e1;refine .inr ⟨g,0,cap,rfl,⟨by omega,(Array.getElem?_eq_some_iff.1 e3).1⟩,fun i hi=>row_cell hn ?_⟩;have hi:i<ns.length:=hi;simp[ET.names,List.getD,hi]
 ·rcases hx.2 with ⟨e1,e2⟩|⟨g,cap,cur,e1,e2,e3,_⟩
  ·exact .inl ⟨List.length_eq_zero_iff.1 e2,_,_,e1⟩
  ·subst e1;refine .inr ⟨g,0,cap,rfl,⟨by omega,(Array.getElem?_eq_some_iff.1 e3).1⟩,fun i hi=>?_⟩;obtain⟨ds,d1,d2,d3⟩:=hc i hi;refine⟨ds,d2.kept (Nat.le_refl _) fun k hS _=>⟨by have:=hS.1;omega,rfl⟩,fun j hj=>?_⟩;have hd:=d3 j hj;rw[show ds[j]?=some (ds[j]'(by omega)) from Array.getElem?_eq_getElem (by omega)]at hd ⊢
   rw[show 0+i*10+j=0+(i*10+j) by omega];exact row_cell hx hd
theorem RowsE.upto {P f e:Nat} {ns:List (List UInt8)} {its:List ET} {pn pi:Value} {w:World} (h:RowsE P f ns its pn pi w) (he:f≤e):RowsE P e ns its pn pi w:=by
 obtain⟨hn,⟨xs,h1,h2⟩,ne⟩:=h;refine⟨hn,⟨xs,h1,fun i hi=>?_⟩,ne⟩;obtain⟨ds,d1,d2,d3⟩:=h2 i hi;exact⟨ds,d1,d2.upto he,d3⟩
theorem rows_readyE {P f b:Nat} {ns:List (List UInt8)} {its:List ET} {pn pi:Value} {w w5:World} {v:ET} {cs:Array Value} (h:RowsE P f ns its pn pi w) (V5:ExIn (fun g=>w.drew.heap.size≤g) w5 f v cs) (G2:Fr [b] w.drew w5) (hbl:b<P) (hP:P<w.heap.size) (o:Obj) :
  ∃ xs,(w5.alloc o).ownsRow (P+1) 29 10 pi its.length xs∧RowsE P f ns its pn pi (w5.alloc o)∧ExIn (Sep P pn pi) (w5.alloc o) f v cs:=by
 have h1:RowsE P f ns its pn pi w.drew:=h.far (b:=b) ⟨rfl,rfl,rfl,Nat.le_refl _,fun _ _ _=>rfl⟩ (by omega);have h2:=(h1.far G2.grown (by omega)).far (World.grownBy_alloc w5 o (some b)) (by omega);obtain⟨xs,hx,_⟩:=h2.hi;obtain⟨ys,hy,_⟩:=h.hi;refine⟨xs,hx,h2,V5.grown (World.grownBy_alloc w5 o none) fun g hg _=>⟨⟨by have:w.heap.size≤g:=hg;omega,fun e=>?_,fun e=>?_⟩,by simp⟩⟩
 ·have:g<w.heap.size:=(own_lt h.hn e).2;have h9:w.heap.size≤g:=hg;omega
 ·have:g<w.heap.size:=(own_lt hy e).2;have h9:w.heap.size≤g:=hg;omega
theorem zero_ET:(Tryz.prog.info? 29).map (fun i=>(i.zero,i.size,i.bytes))=some (some (.agg #[.int .i64 0,.string ⟨#[]⟩,.int .i64 0,.int .i64 0,.float .f64 0,.string ⟨#[]⟩,.slice none 0 0,.slice none 0 0,.slice none 0 0,.slice none 0 0]),10,160):=by kernel_rfl
end
end Go.Proofs.YtaaaaggmhjhkkaaGreatDoor
