/-
  E8 in one text.
-/
import Derived.Test.YtaaaaggmhjhkkaaGreatDoorS17
import Derived.Test.YtaaaaggmhjhkkaaGreatDoorS35
namespace Go.Proofs.YtaaaaggmhjhkkaaGreatDoor
open Go
/-- a reader that leaves alone what stands behind -/
def Ext (S:List Te) (E:List Te→PR):Prop:=∀ l x q,E l=.ok (x,q)→E (l++S)=.ok (x,q++S)
theorem take_app_some {sg:List (List UInt8)} {l q:List Te} {i:Nat} (h:takeS sg l=some (i,q)) (S:List Te):takeS sg (l++S)=some (i,q++S):=by
 cases l with
 | nil=>cases h
 | cons t r =>
  rw[takeS_cons]at h;rw[List.cons_append,takeS_cons];by_cases hk:t.kind=6
  ·rw[if_pos hk]at h ⊢
   cases hi:idxS sg t.str with
   | none=>rw[hi]at h;cases h
   | some j=>rw[hi]at h;cases h;rfl
  ·rw[if_neg hk]at h;cases h
theorem take_app_none {sg:List (List UInt8)} {l:List Te} (h:takeS sg l=none) (hs:sg.contains [41]=false) (r:List Te):takeS sg (l++sgT [41]::r)=none:=by
 cases l with
 | nil=>exact takeS_no hs
 | cons t q =>
  rw[takeS_cons]at h;rw[List.cons_append,takeS_cons];by_cases hk:t.kind=6
  ·rw[if_pos hk]at h ⊢
   cases hi:idxS sg t.str with
   | none=>rfl
   | some j=>rw[hi]at h;cases h
  ·rw[if_neg hk]
theorem want_app {s:List UInt8} {l q:List Te} (h:wantS s l=.ok q) (S:List Te):wantS s (l++S)=.ok (q++S):=by
 unfold wantS at h ⊢
 split at h
 ·rename_i i r hr;cases h
  rw[take_app_some hr S]
 ·cases h
theorem name_app {l q:List Te} {s:List UInt8} (h:nameT l=.ok (s,q)) (S:List Te):nameT (l++S)=.ok (s,q++S):=by
 cases l with
 | nil=>cases h
 | cons t r =>
  simp only[nameT]at h;rw[List.cons_append];simp only[nameT];by_cases hk:t.kind=5
  ·rw[if_pos hk]at h ⊢;cases h;rfl
  ·rw[if_neg hk]at h;cases h
section
variable {r0:List Te} {E:List Te→PR}
theorem postL_ext (hE:Eats E) (hX:Ext (sgT [41]::r0) E):∀ (n m:Nat) (x:ET) (l:List Te) (y:ET) (q:List Te),l.length<n→(l++sgT [41]::r0).length<m→postL E n x l=.ok (y,q)→postL E m x (l++sgT [41]::r0)=.ok (y,q++sgT [41]::r0)
 | n+1,m+1,x,l,y,q,hn,hm,h=>by
  rw[List.length_append]at hm;rcases ht:takeS [[46],[91]] l with _|⟨i,l1⟩
  ·rw[postL_n ht]at h;cases h
   rw[postL_n (take_app_none ht (by decide) r0)]
  ·have hl:=takeS_len ht;have ht2:=take_app_some ht (sgT [41]::r0);rcases Nat.eq_zero_or_pos i with rfl|hi
   ·rw[postL_0 ht]at h;rw[postL_0 ht2];rcases hs:nameT l1 with e|⟨s,l2⟩
    ·rw[hs]at h;cases h
    ·rw[hs]at h;rw[name_app hs];have:=nameT_len hs;exact postL_ext hE hX n m _ l2 y q (by omega) (by rw[List.length_append];omega) h
   ·obtain⟨j,rfl⟩:∃ j,i=j+1:=⟨i - 1,by omega⟩;have h1:postL E (n+1) x l=(match E l1 with|.error e=>.error e|.ok (y,r2)=>(match wantS [93] r2 with|.error e=>.error e|.ok r3=>postL E n (twoE 19 x y) r3)):=by
     rw[postL,ht]<;>rfl
    have h2:postL E (m+1) x (l++sgT [41]::r0)=(match E (l1++sgT [41]::r0) with|.error e=>.error e|.ok (y,r2)=>(match wantS [93] r2 with|.error e=>.error e|.ok r3=>postL E m (twoE 19 x y) r3)):=by
     rw[postL,ht2]<;>rfl
    rw[h1]at h;rw[h2];rcases he:E l1 with e|⟨z,l2⟩
    ·rw[he]at h;cases h
    ·rw[he]at h;rw[hX _ _ _ he];dsimp only at h ⊢
     rcases hw:wantS [93] l2 with e|l3
     ·rw[hw]at h;cases h
     ·rw[hw]at h;rw[want_app hw];have:=hE _ _ _ he;have:=wantS_len hw;exact postL_ext hE hX n m _ l3 y q (by omega) (by rw[List.length_append];omega) h
theorem rowL_ext (hE:Eats E) (hX:Ext (sgT [41]::r0) E):∀ (n m:Nat) (xs:List ET) (l:List Te) (y:ET) (q:List Te),l.length<n→(l++sgT [41]::r0).length<m→rowL E n xs l=.ok (y,q)→rowL E m xs (l++sgT [41]::r0)=.ok (y,q++sgT [41]::r0)
 | n+1,m+1,xs,l,y,q,hn,hm,h=>by
  rw[List.length_append]at hm;rw[rowL]at h ⊢
  rcases he:E l with e|⟨z,l2⟩
  ·rw[he]at h;cases h
  ·rw[he]at h;rw[hX _ _ _ he];dsimp only at h ⊢
   have h1:=hE _ _ _ he;rcases ht:takeS [[44]] l2 with _|⟨i,l3⟩
   ·rw[ht]at h;rw[take_app_none ht (by decide)];dsimp only at h ⊢
    rcases hw:wantS [93] l2 with e|l4
    ·rw[hw]at h;cases h
    ·rw[hw]at h;rw[want_app hw];cases h;rfl
   ·rw[ht]at h;rw[take_app_some ht];have:=takeS_len ht;exact rowL_ext hE hX n m _ l3 y q (by omega) (by rw[List.length_append];omega) h
theorem recL_ext (hE:Eats E) (hX:Ext (sgT [41]::r0) E):∀ (n m:Nat) (ns:List (List UInt8)) (xs:List ET) (l:List Te) (y:ET) (q:List Te),l.length<n→(l++sgT [41]::r0).length<m→recL E n ns xs l=.ok (y,q)→recL E m ns xs (l++sgT [41]::r0)=.ok (y,q++sgT [41]::r0)
 | n+1,m+1,ns,xs,l,y,q,hn,hm,h=>by
  rw[List.length_append]at hm;rw[recL]at h ⊢
  rcases hs:nameT l with e|⟨s,l1⟩
  ·rw[hs]at h;cases h
  ·rw[hs]at h;rw[name_app hs];dsimp only at h ⊢
   have h0:=nameT_len hs;by_cases hd:ns[aheadN ns s]?=some s
   ·rw[if_pos hd]at h;cases h
   ·rw[if_neg hd]at h ⊢
    rcases hw:wantS [58] l1 with e|l2
    ·rw[hw]at h;cases h
    ·rw[hw]at h;rw[want_app hw];dsimp only at h ⊢
     have h1:=wantS_len hw;rcases he:E l2 with e|⟨z,l3⟩
     ·rw[he]at h;cases h
     ·rw[he]at h;rw[hX _ _ _ he];dsimp only at h ⊢
      have h2:=hE _ _ _ he;rcases ht:takeS [[44]] l3 with _|⟨i,l4⟩
      ·rw[ht]at h;rw[take_app_none ht (by decide)];dsimp only at h ⊢
       rcases hw2:wantS [125] l3 with e|l4
       ·rw[hw2]at h;cases h
       ·rw[hw2]at h;rw[want_app hw2];cases h;rfl
      ·rw[ht]at h;rw[take_app_some ht];have:=takeS_len ht;exact recL_ext hE hX n m _ _ l4 y q (by omega) (by rw[List.length_append];omega) h
theorem wordF_ext (hX:Ext (sgT [41]::r0) E):Ext (sgT [41]::r0) (wordF E):=by
 intro l x q h;unfold wordF at h ⊢
 rcases hs:nameT l with e|⟨s,l1⟩
 ·rw[hs]at h;cases h
 ·rw[hs]at h;rw[name_app hs];dsimp only at h ⊢
  by_cases h1:s=[116,114,117,101]
  ·rw[if_pos h1]at h ⊢;cases h;rfl
  ·rw[if_neg h1]at h ⊢
   by_cases h2:s=[102,97,108,115,101]
   ·rw[if_pos h2]at h ⊢;cases h;rfl
   ·rw[if_neg h2]at h ⊢
    rcases hi:idxS callsB s with _|i
    ·rw[hi]at h;cases h;rfl
    ·rw[hi]at h;dsimp only at h ⊢
     rcases hw:wantS [40] l1 with e|l2
     ·rw[hw]at h;cases h
     ·rw[hw]at h;rw[want_app hw];dsimp only at h ⊢
      rcases he:E l2 with e|⟨z,l3⟩
      ·rw[he]at h;cases h
      ·rw[he]at h;rw[hX _ _ _ he];dsimp only at h ⊢
       rcases hw2:wantS [41] l3 with e|l4
       ·rw[hw2]at h;cases h
       ·rw[hw2]at h;rw[want_app hw2];cases h;rfl
theorem primF_ext (hE:Eats E) (hX:Ext (sgT [41]::r0) E):Ext (sgT [41]::r0) (primF E):=by
 intro l x q h;rcases ht:takeS [[40],[91],[123]] l with _|⟨i,l1⟩
 ·cases l with
  | nil=>unfold primF at h;rw[ht]at h;cases h
  | cons t l =>
   have ht2:=take_app_none ht (by decide) r0;rw[List.cons_append]at ht2;rw[List.cons_append,primF_n ht2];rw[primF_n ht]at h;by_cases k2:t.kind=2
   ·rw[if_pos k2]at h ⊢;cases h;rfl
   ·rw[if_neg k2]at h ⊢
    by_cases k3:t.kind=3
    ·rw[if_pos k3]at h ⊢;cases h;rfl
    ·rw[if_neg k3]at h ⊢
     by_cases k4:t.kind=4
     ·rw[if_pos k4]at h ⊢;cases h;rfl
     ·rw[if_neg k4]at h ⊢
      by_cases k5:t.kind=5
      ·rw[if_pos k5]at h ⊢
       have:=wordF_ext hX _ _ _ h;rwa [List.cons_append]at this
      ·rw[if_neg k5]at h;cases h
 ·have ht2:=take_app_some ht (sgT [41]::r0);rcases Nat.eq_zero_or_pos i with rfl|hi
  ·rw[primF_0 ht]at h;rw[primF_0 ht2];rcases he:E l1 with e|⟨z,l3⟩
   ·rw[he]at h;cases h
   ·rw[he]at h;rw[hX _ _ _ he];dsimp only at h ⊢
    rcases hw2:wantS [41] l3 with e|l4
    ·rw[hw2]at h;cases h
    ·rw[hw2]at h;rw[want_app hw2];cases h;rfl
  ·by_cases hi1:i=1
   ·subst hi1;rw[primF_1 ht]at h;rw[primF_1 ht2];rcases ht3:takeS [[93]] l1 with _|⟨j,l2⟩
    ·rw[ht3]at h;rw[take_app_none ht3 (by decide)];exact rowL_ext hE hX _ _ _ _ _ _ (by omega) (by omega) h
    ·rw[ht3]at h;rw[take_app_some ht3];cases h;rfl
   ·obtain⟨j,rfl⟩:∃ j,i=j+2:=⟨i - 2,by omega⟩;have h1:primF E l=(match takeS [[125]] l1 with|some (_,r2)=>.ok (.mk 17 [] noVT [] [],r2)|none=>recL E (l1.length+1) [] [] l1):=by
     unfold primF;rw[ht]<;>rfl
    have h2:primF E (l++sgT [41]::r0)=(match takeS [[125]] (l1++sgT [41]::r0) with|some (_,r2)=>.ok (.mk 17 [] noVT [] [],r2)|none=>recL E ((l1++sgT [41]::r0).length+1) [] [] (l1++sgT [41]::r0)):=by
     unfold primF;rw[ht2]<;>rfl
    rw[h1]at h;rw[h2];rcases ht3:takeS [[125]] l1 with _|⟨j,l2⟩
    ·rw[ht3]at h;rw[take_app_none ht3 (by decide)];exact recL_ext hE hX _ _ _ _ _ _ _ (by omega) (by omega) h
    ·rw[ht3]at h;rw[take_app_some ht3];cases h;rfl
theorem postF_ext (hE:Eats E) (hX:Ext (sgT [41]::r0) E):Ext (sgT [41]::r0) (postF E):=by
 intro l x q h;unfold postF at h ⊢
 rcases he:primF E l with e|⟨z,l1⟩
 ·rw[he]at h;cases h
 ·rw[he]at h;rw[primF_ext hE hX _ _ _ he];exact postL_ext hE hX _ _ _ _ _ _ (by omega) (by omega) h
theorem binL_ext {B:List Te→PR} (hE:Eats B) (hX:Ext (sgT [41]::r0) B) (lv:Lv) (hlv:lv.signs.contains [41]=false):∀ (n m:Nat) (x:ET) (l:List Te) (y:ET) (q:List Te),l.length<n→(l++sgT [41]::r0).length<m→binL B lv n x l=.ok (y,q)→binL B lv m x (l++sgT [41]::r0)=.ok (y,q++sgT [41]::r0)
 | n+1,m+1,x,l,y,q,hn,hm,h=>by
  rw[List.length_append]at hm;rw[binL]at h ⊢
  rcases ht:takeS lv.signs l with _|⟨i,l1⟩
  ·rw[ht]at h;rw[take_app_none ht hlv];cases h;rfl
  ·rw[ht]at h;rw[take_app_some ht];dsimp only at h ⊢
   have h0:=takeS_len ht;rcases he:B l1 with e|⟨z,l2⟩
   ·rw[he]at h;cases h
   ·rw[he]at h;rw[hX _ _ _ he];dsimp only at h ⊢
    have:=hE _ _ _ he;cases ho:lv.once
    ·rw[ho,if_neg (by decide)]at h;rw[if_neg (by decide)];exact binL_ext hE hX lv hlv n m _ l2 y q (by omega) (by rw[List.length_append];omega) h
    ·rw[ho,if_pos rfl]at h;rw[if_pos rfl];cases h;rfl
theorem binF_ext {U:List Te→PR} (hE:Eats U) (hX:Ext (sgT [41]::r0) U):∀ (lvs:List Lv),(∀ lv ∈ lvs,lv.signs.contains [41]=false)→Ext (sgT [41]::r0) (binF U lvs)
 | [],_,l,x,q,h=>hX l x q h
 | lv::lvs,hl,l,x,q,h=>by
  rw[binF]at h ⊢
  rcases he:binF U lvs l with e|⟨z,l1⟩
  ·rw[he]at h;cases h
  ·rw[he]at h;rw[binF_ext hE hX lvs (fun a ha=>hl a (by simp[ha])) _ _ _ he];exact binL_ext (binF_len hE lvs) (binF_ext hE hX lvs (fun a ha=>hl a (by simp[ha]))) lv (hl lv (by simp)) _ _ _ _ _ _ (by omega) (by omega) h
theorem unF_ext {U:List Te→PR} (hE:Eats E) (hX:Ext (sgT [41]::r0) E) (hU:Ext (sgT [41]::r0) U):Ext (sgT [41]::r0) (unF E U):=by
 intro l x q h;rcases ht:takeS [[45],[33]] l with _|⟨i,l1⟩
 ·rw[unF_n ht]at h;rw[unF_n (take_app_none ht (by decide) r0)];exact postF_ext hE hX _ _ _ h
 ·have ht2:=take_app_some ht (sgT [41]::r0);rcases Nat.eq_zero_or_pos i with rfl|hi
  ·rw[unF_0 ht]at h;rw[unF_0 ht2];rcases he:U l1 with e|⟨z,l3⟩
   ·rw[he]at h;cases h
   ·rw[he]at h;rw[hU _ _ _ he];cases h;rfl
  ·obtain⟨j,rfl⟩:∃ j,i=j+1:=⟨i - 1,by omega⟩;have h1:unF E U l=(match U l1 with|.error e=>.error e|.ok (x,r2)=>.ok (oneE 4 x,r2)):=by unfold unF;rw[ht]<;>rfl
   have h2:unF E U (l++sgT [41]::r0)=(match U (l1++sgT [41]::r0) with|.error e=>.error e|.ok (x,r2)=>.ok (oneE 4 x,r2)):=by unfold unF;rw[ht2]<;>rfl
   rw[h1]at h;rw[h2];rcases he:U l1 with e|⟨z,l3⟩
   ·rw[he]at h;cases h
   ·rw[he]at h;rw[hU _ _ _ he];cases h;rfl
theorem levels_no:∀ lv ∈ levelsB,lv.signs.contains [41]=false:=by
 intro lv hl;simp only[levelsB,List.mem_cons,List.not_mem_nil,or_false]at hl;rcases hl with rfl|rfl|rfl|rfl|rfl<;>decide
theorem exF_ext {U:List Te→PR} (hX:Ext (sgT [41]::r0) E) (hUe:Eats U) (hU:Ext (sgT [41]::r0) U):Ext (sgT [41]::r0) (exF E U):=by
 intro l x q h;unfold exF at h ⊢
 rcases he:binF U levelsB l with e|⟨z,l1⟩
 ·rw[he]at h;cases h
 ·rw[he]at h;rw[binF_ext hUe hU levelsB levels_no _ _ _ he];dsimp only at h ⊢
  rcases ht:takeS [[63]] l1 with _|⟨i,l2⟩
  ·rw[ht]at h;rw[take_app_none ht (by decide)];cases h;rfl
  ·rw[ht]at h;rw[take_app_some ht];dsimp only at h ⊢
   rcases he2:E l2 with e|⟨z2,l3⟩
   ·rw[he2]at h;cases h
   ·rw[he2]at h;rw[hX _ _ _ he2];dsimp only at h ⊢
    rcases hw:wantS [58] l3 with e|l4
    ·rw[hw]at h;cases h
    ·rw[hw]at h;rw[want_app hw];dsimp only at h ⊢
     rcases he3:E l4 with e|⟨z3,l5⟩
     ·rw[he3]at h;cases h
     ·rw[he3]at h;rw[hX _ _ _ he3];cases h;rfl
end
theorem exUn_ext (r0:List Te):∀ n,Ext (sgT [41]::r0) (exUn n).1∧Ext (sgT [41]::r0) (exUn n).2
 | 0=>⟨(fun _ _ _ h=>by cases h),(fun _ _ _ h=>by cases h)⟩
 | n+1=>by
  obtain⟨h1,h2⟩:=exUn_ext r0 n;obtain⟨l1,l2⟩:=exUn_len n;exact⟨exF_ext h1 l2 h2,unF_ext l1 h1 h2⟩
/-- with more levels it is the same, or it was too deep -/
def UpF (F G:List Te→PR):Prop:=∀ l,F l=.error .deep∨G l=F l
section
variable {E E':List Te→PR}
theorem postL_up (hE:UpF E E'):∀ (n:Nat) (x:ET) (l:List Te),postL E n x l=.error .deep∨postL E' n x l=postL E n x l
 | 0,x,l=>.inr rfl
 | n+1,x,l=>by
  rw[postL,postL];split
  ·exact .inr rfl
  ·split
   ·exact .inr rfl
   ·exact postL_up hE n _ _
  ·rename_i i r _ _;rcases hE r with h|h
   ·rw[h];exact .inl rfl
   ·rw[h];split
    ·exact .inr rfl
    ·split
     ·exact .inr rfl
     ·exact postL_up hE n _ _
theorem rowL_up (hE:UpF E E'):∀ (n:Nat) (xs:List ET) (l:List Te),rowL E n xs l=.error .deep∨rowL E' n xs l=rowL E n xs l
 | 0,x,l=>.inr rfl
 | n+1,xs,l=>by
  rw[rowL,rowL];rcases hE l with h|h
  ·rw[h];exact .inl rfl
  ·rw[h];split
   ·exact .inr rfl
   ·split
    ·exact rowL_up hE n _ _
    ·exact .inr rfl
theorem recL_up (hE:UpF E E'):∀ (n:Nat) (ns:List (List UInt8)) (xs:List ET) (l:List Te),recL E n ns xs l=.error .deep∨recL E' n ns xs l=recL E n ns xs l
 | 0,ns,x,l=>.inr rfl
 | n+1,ns,xs,l=>by
  rw[recL,recL];split
  ·exact .inr rfl
  ·split
   ·exact .inr rfl
   ·split
    ·exact .inr rfl
    ·rename_i r2 _;rcases hE r2 with h|h
     ·rw[h];exact .inl rfl
     ·rw[h];split
      ·exact .inr rfl
      ·dsimp only;split
       ·exact recL_up hE n _ _ _
       ·exact .inr rfl
theorem wordF_up (hE:UpF E E'):UpF (wordF E) (wordF E'):=by
 intro l;unfold wordF;split
 ·exact .inr rfl
 ·split
  ·exact .inr rfl
  ·split
   ·exact .inr rfl
   ·split
    ·exact .inr rfl
    ·split
     ·exact .inr rfl
     ·rename_i r2 _;rcases hE r2 with h|h
      ·rw[h];exact .inl rfl
      ·rw[h];exact .inr rfl
theorem primF_up (hE:UpF E E'):UpF (primF E) (primF E'):=by
 intro l;unfold primF;split
 ·rename_i q _;rcases hE q with h|h
  ·rw[h];exact .inl rfl
  ·rw[h];exact .inr rfl
 ·split
  ·exact .inr rfl
  ·exact rowL_up hE _ _ _
 ·split
  ·exact .inr rfl
  ·exact recL_up hE _ _ _ _
 ·split
  ·exact .inr rfl
  ·split
   ·exact .inr rfl
   ·split
    ·exact .inr rfl
    ·split
     ·exact .inr rfl
     ·split
      ·exact wordF_up hE _
      ·exact .inr rfl
theorem postF_up (hE:UpF E E'):UpF (postF E) (postF E'):=by
 intro l;unfold postF;rcases primF_up hE l with h|h
 ·rw[h];exact .inl rfl
 ·rw[h];split
  ·exact .inr rfl
  ·exact postL_up hE _ _ _
theorem binL_up {B B':List Te→PR} (hB:UpF B B') (lv:Lv):∀ (n:Nat) (x:ET) (l:List Te),binL B lv n x l=.error .deep∨binL B' lv n x l=binL B lv n x l
 | 0,x,l=>.inr rfl
 | n+1,x,l=>by
  rw[binL,binL];split
  ·exact .inr rfl
  ·rename_i i r _;rcases hB r with h|h
   ·rw[h];exact .inl rfl
   ·rw[h];split
    ·exact .inr rfl
    ·split
     ·exact .inr rfl
     ·exact binL_up hB lv n _ _
theorem binF_up {U U':List Te→PR} (hU:UpF U U'):∀ lvs:List Lv,UpF (binF U lvs) (binF U' lvs)
 | [],l=>hU l
 | lv::lvs,l=>by
  rw[binF,binF];rcases binF_up hU lvs l with h|h
  ·rw[h];exact .inl rfl
  ·rw[h];split
   ·exact .inr rfl
   ·exact binL_up (binF_up hU lvs) lv _ _ _
theorem unF_up {U U':List Te→PR} (hE:UpF E E') (hU:UpF U U'):UpF (unF E U) (unF E' U'):=by
 intro l;unfold unF;split
 ·rename_i r _;rcases hU r with h|h
  ·rw[h];exact .inl rfl
  ·rw[h];exact .inr rfl
 ·rename_i i r _ _;rcases hU r with h|h
  ·rw[h];exact .inl rfl
  ·rw[h];exact .inr rfl
 ·exact postF_up hE _
theorem exF_up {U U':List Te→PR} (hE:UpF E E') (hU:UpF U U'):UpF (exF E U) (exF E' U'):=by
 intro l;unfold exF;rcases binF_up hU levelsB l with h|h
 ·rw[h];exact .inl rfl
 ·rw[h];split
  ·exact .inr rfl
  ·split
   ·exact .inr rfl
   ·rename_i i r2 _;rcases hE r2 with h|h
    ·rw[h];exact .inl rfl
    ·rw[h];split
     ·exact .inr rfl
     ·split
      ·exact .inr rfl
      ·rename_i r4 _;rcases hE r4 with h|h
       ·rw[h];exact .inl rfl
       ·rw[h];exact .inr rfl
end
theorem exUn_up1:∀ n,UpF (exUn n).1 (exUn (n+1)).1∧UpF (exUn n).2 (exUn (n+1)).2
 | 0=>⟨fun _=>.inl rfl,fun _=>.inl rfl⟩
 | n+1=>by
  obtain⟨h1,h2⟩:=exUn_up1 n;exact⟨exF_up h1 h2,unF_up h1 h2⟩
theorem exUn_up (n k:Nat) (l:List Te):(exUn n).1 l=.error .deep∨(exUn (n+k)).1 l=(exUn n).1 l:=by
 induction k with
 | zero=>exact .inr rfl
 | succ k ih =>
  rcases ih with h|h
  ·exact .inl h
  ·rcases(exUn_up1 (n+k)).1 l with h2|h2
   ·exact .inl (h.symm.trans h2)
   ·exact .inr (h2.trans h)
theorem exUn_succ (n:Nat):exUn (n+1)=(exF (exUn n).1 (exUn n).2,unF (exUn n).1 (exUn n).2):=rfl
/-- what is read with all levels is read within brackets, or these are one too many -/
theorem paren_read {l:List Te} {x:ET} (h:(exUn 100).1 l=.ok (x,[])):(exUn 100).1 (sgT [40]::(l++[sgT [41]]))=.ok (x,[])∨(exUn 100).1 (sgT [40]::(l++[sgT [41]]))=.error .deep:=by
 have hX:=(exUn_ext [] 100).1 _ _ _ h;rw[List.nil_append]at hX;have ht:takeS [[45],[33]] (sgT [40]::(l++[sgT [41]]))=none:=takeS_no (by decide);rcases exUn_up 98 2 (l++[sgT [41]])with h1|h1
 ·right;have hp:postF (exUn 98).1 (sgT [40]::(l++[sgT [41]]))=.error .deep:=by
   unfold postF;rw[primF_0 (takeS_yes (by decide)),h1]
  have hu:(exUn 99).2 (sgT [40]::(l++[sgT [41]]))=.error .deep:=by
   rw[show exUn 99=_ from exUn_succ 98];exact(unF_n (U:=(exUn 98).2) ht).trans hp
  rw[show exUn 100=_ from exUn_succ 99];have hb:∀ lvs:List Lv,binF (exUn 99).2 lvs (sgT [40]::(l++[sgT [41]]))=.error .deep:=by
   intro lvs;induction lvs with
   | nil=>exact hu
   | cons a b ih=>rw[binF,ih]
  show exF (exUn 99).1 (exUn 99).2 _=_;unfold exF;rw[hb]
 ·left;rw[hX]at h1;have hp:primF (exUn 98).1 (sgT [40]::(l++[sgT [41]]))=.ok (x,[]):=prim_paren h1.symm;have hq:postF (exUn 98).1 (sgT [40]::(l++[sgT [41]]))=.ok (x,[]):=by
   unfold postF;rw[hp];exact post_stop rfl
  have hu:(exUn 99).2 (sgT [40]::(l++[sgT [41]]))=.ok (x,[]):=by
   rw[show exUn 99=_ from exUn_succ 98];exact(unF_n (U:=(exUn 98).2) ht).trans hq
  exact ex_of_bin (bin_pass hu _ (fun _ _=>rfl)) rfl
theorem tokens_to {l:List UInt8} (hl:l.length≤2000) (h:(tokens l).2.2=0):TokTo l (tesOf l):=by
 unfold tesOf tokens at *;rw[if_neg (by omega)]at h ⊢
 exact to_of_all (l:=l) (l.length+1) 0 (by omega) (by omega) h
theorem parse_deep {l:List UInt8} (hl:l.length≤2000) (h:(tokens l).2.2=0) (he:(exUn 100).1 (tesOf l)=.error .deep):(parseX l).2.2=15:=by
 unfold parseX;unfold tesOf at he;rw[if_neg (by omega),if_neg (by omega)];dsimp only;rw[he]
theorem parse_paren {l:List UInt8} (hl:l.length≤1000) (h:(parseX l).2.2=0):parseX (40::(l++[41]))=((parseX l).1,0,0)∨(parseX (40::(l++[41]))).2.2=15:=by
 obtain⟨h0,h1,h2,h3,_⟩:=parse_was h;have ht:=((tokens_to h0 h1).shut).open
 have hl2:(40::(l++[41])).length≤2000:=by simp;omega
 obtain⟨k1,k2⟩:=to_tokens hl2 ht;rcases paren_read h2 with h4|h4
 ·exact .inl (parse_ok hl2 k1 (by rw[k2];exact h4) h3)
 ·exact .inr (parse_deep hl2 k1 (by rw[k2];exact h4))
end Go.Proofs.YtaaaaggmhjhkkaaGreatDoor
