/-
  K5, K6, K7, K9, Ka in one text.
-/
import Derived.Test.YtaaaaggmhjhkkaaGreatDoorS06
import Derived.Test.YtaaaaggmhjhkkaaGreatDoorCl
set_option maxRecDepth 100000
set_option maxHeartbeats 8000000
namespace Go.Proofs.YtaaaaggmhjhkkaaGreatDoor
section
open Go.RowKit
theorem parseInt_digs (l:List UInt8) (h:l.all isDig=true) (h0:1≤l.length):Lib.parseIntB 64 l=if decVal l<9223372036854775808 then .ok (decVal l:Int) else .range:=by
 have hu:=parseUint_digs l h h0;cases l with
 | nil=>simp at h0
 | cons c r =>
  have hc:48≤c.toNat∧c.toNat≤57:=by
   rw[List.all_cons,Bool.and_eq_true]at h;simpa [isDig] using h.1
  unfold Lib.parseIntB;simp only;rw[if_neg (by omega),hu];by_cases h1:decVal (c::r)<18446744073709551616
  ·rw[if_pos h1];simp only;by_cases h2:decVal (c::r)<9223372036854775808
   ·rw[if_pos h2,if_neg (by omega),if_neg (by omega),if_neg (by omega)]
   ·rw[if_neg h2,if_pos (by omega)]
  ·rw[if_neg h1,if_neg (by omega)]
theorem part_all (p:UInt8→Bool) (l:List UInt8) (a:Nat):(part l a (a+far p l a)).all p=true:=by
 have e:part l a (a+far p l a)=(l.drop a).takeWhile p:=by
  unfold part far;rw[Nat.add_sub_cancel_left];exact(List.prefix_iff_eq_take.1 (List.takeWhile_prefix p)).symm
 rw[e];induction l.drop a with
 | nil=>rfl
 | cons c r ih =>
  rw[List.takeWhile_cons];by_cases h:p c=true
  ·rw[if_pos h,List.all_cons,h,ih];rfl
  ·rw[if_neg h];rfl
/-- whether the byte at a place is c: as the code asks it -/
theorem at_byte (s:ByteArray) (k:Nat) (c:UInt8):(s.data.toList[k]?=some c)↔∃ h:k<s.size,(((s[k]'h).toNat:Int)==(c.toNat:Int))=true:=by
 constructor
 ·intro h;have hk:k<s.data.toList.length:=by
   rcases Nat.lt_or_ge k s.data.toList.length with g|g
   ·exact g
   ·rw[List.getElem?_eq_none g]at h;cases h
  have hk2:k<s.size:=by simpa using hk
  refine⟨hk2,?_⟩;rw[List.getElem?_eq_getElem hk]at h;have e:s[k]'hk2=c:=Option.some.inj h;rw[e];simp
 ·rintro⟨hk,h⟩;have hk2:k<s.data.toList.length:=by simpa using hk
  rw[List.getElem?_eq_getElem hk2];congr 1
  show s[k]'hk=c;rw[beq_iff_eq]at h;apply UInt8.toNat_inj.1
  omega
theorem parseInt_ok (l:List UInt8) (hl:l.length≤1000000) (v:Int) (h:Lib.parseIntB 64 l=.ok v) (w:World) (hE:Env w):Calls Tryz.prog 113 #[.string ⟨l.toArray⟩,.int .i64 10,.int .i64 64] w fun e w' =>
  e=.returned (.tuple #[.int .i64 v,.nilIface])∧Below w.heap.size w w':=by
 have:=hE.most;exact(Tryz.strconv_ParseInt_10_at64_ok ⟨l.toArray⟩ (by show l.toArray.size≤_;simp;omega) v h w).mono fun _ _ ⟨h1,h2⟩=>⟨h1,by
  rcases h2 with h2|⟨t,h2⟩<;>rw[h2]
  ·exact Below.refl _ _
  ·exact Joins.below_bytesWorld _ _ _ _ (Nat.le_refl _)⟩
theorem parseInt_range (l:List UInt8) (hl:l.length≤1000000) (h:Lib.parseIntB 64 l=.range) (w:World) (hE:Env w):Calls Tryz.prog 113 #[.string ⟨l.toArray⟩,.int .i64 10,.int .i64 64] w fun e w' =>
  ∃ N,e=.returned (.tuple #[.int .i64 (Lib.intSat 64 l),.iface 178 (.pointer (some ⟨N,0,none⟩))])∧Below w.heap.size w w':=by
 obtain⟨ev,he,hev⟩:=hE.rng;exact(Tryz.strconv_ParseInt_10_at64_range ⟨l.toArray⟩ (by show l.toArray.size≤_;simp;omega) h ev w he hev).mono fun _ _ ⟨N,h1,_,_,h2⟩=>⟨N,h1,h2⟩
theorem EnvB.drewN {B:Nat} {w:World} (h:EnvB B w) (n:Nat):EnvB B (w.drewN n):=h.below ⟨rfl,rfl,rfl,Nat.le_refl _,fun _ _=>rfl⟩
/-- an int: no 'p' stands behind its digits -/
def NoP (s:ByteArray) (i:Nat):Prop:=(decide ((i:Int)<(s.size:Int))=false∧¬ i<s.size)∨∃ h:i<s.size,(((s[i]'h).toNat:Int)==112)=false
theorem number_int (s:ByteArray) (hs:s.size≤1000000) (a b t B:Nat) (ha:a≤s.size) (hbt:b≠t) (hBb:B≤b) (hBt:B≤t) (w:World) (hb:LexAt b s a w) (ht:TokAt t ⟨1,a,0,0,0,[]⟩ w) (hE:EnvB B w)
  (h1:1≤far isDig s.data.toList a) (hnp:¬ s.data.toList[a+far isDig s.data.toList a]?=some 112) (hno:NoP s (a+far isDig s.data.toList a)) :
  Calls Tryz.prog 85 #[.pointer (some ⟨b,0,none⟩),.pointer (some ⟨t,0,none⟩)] w (Reads b t s a (numS s.data.toList a) w):=by
 have hl:s.data.toList.length=s.size:=by simp
 have hfl:=far_le isDig s.data.toList (a:=a) (by rw[hl];exact ha);rw[hl]at hfl;have hw:=while_any 84 enters_digit isDig (isDigit_any) s hs a b ha w hb;rw[part_bytes s a (a+far isDig s.data.toList a)]at hw;have HW:=zh hw;clear hw;have hlen:=part_length (l:=s.data.toList) (a:=a) (e:=a+far isDig s.data.toList a) (by rw[hl];exact hfl);rw[show a+far isDig s.data.toList a - a=far isDig s.data.toList a by omega]at hlen;have hall:=part_all isDig s.data.toList a;have hr:=numS.eq_def s.data.toList a;simp only at hr;rw[if_neg hnp]at hr;generalize far isDig s.data.toList a=n at *;generalize hai:a+n=i at *;generalize part s.data.toList a i=q at *;have hpi:=parseInt_digs q hall (by omega);clear hall hnp hl;by_cases h2:decVal q<9223372036854775808
 ·rw[if_pos h2]at hpi;have HI:=zh (parseInt_ok q (by omega) _ hpi);generalize decVal q=v at *;by_cases h3:19<n
  ·rw[if_pos (.inl h3)]at hr;have HR:=zh hr;clear hr hpi;have t3:decide ((19:Int)<(n:Int))=true:=by simp;omega
   rcases hno with ⟨hno,hno2⟩|⟨hi,hno⟩
   ·go_in;go_wp2_with fail
    refine(HW.out).mono ?_;rintro e w1 ⟨rfl,hlx,hfr⟩;have htk:=ht.kept hfr (by simp;omega);have c0:=hlx.c0;have c1:=hlx.c1;have g1:=hlx.f1;have hE1:=hE.fr hBb hBt hfr.one;go_wp2_with fail
    go_quiet (fail)
    go_wp2_with fail
    refine(HI.out _ (hE1.drewN _).here).mono ?_;rintro e w3 ⟨rfl,hb3⟩;have hlx3:=(hlx.drewN nq).kept (Fr.of_below (l:=[]) hb3) (by simp);have htk3:=(htk.drewN nq).kept (Fr.of_below (l:=[]) hb3) (by simp);have hfr3:=(hfr.one.drewN nq).trans (Fr.of_below (l:=[b,t]) hb3);have z0:w3.cell? ⟨t,0,none⟩=some (.int .i64 1):=htk3.cell 0;have z3:w3.cell? ⟨t,3,none⟩=some (.int .i64 0):=htk3.cell 3;have f0:=htk3.free 0;have f3:=htk3.free 3;go_wp2_with fail
    go_ret;exact⟨ret_val (by rw[HR.out];rfl),hfr3,⟨_,i,rfl,htk3,hlx3,hfl⟩,fun h=>by rw[HR.out]at h;cases h⟩
   ·have hi2:decide ((i:Int)<(s.size:Int))=true:=by simp;omega
    go_in;go_wp2_with fail
    refine(HW.out).mono ?_;rintro e w1 ⟨rfl,hlx,hfr⟩;have htk:=ht.kept hfr (by simp;omega);have c0:=hlx.c0;have c1:=hlx.c1;have g1:=hlx.f1;have hE1:=hE.fr hBb hBt hfr.one;go_wp2_with fail
    go_quiet (fail)
    go_wp2_with fail
    refine(HI.out _ (hE1.drewN _).here).mono ?_;rintro e w3 ⟨rfl,hb3⟩;have hlx3:=(hlx.drewN nq).kept (Fr.of_below (l:=[]) hb3) (by simp);have htk3:=(htk.drewN nq).kept (Fr.of_below (l:=[]) hb3) (by simp);have hfr3:=(hfr.one.drewN nq).trans (Fr.of_below (l:=[b,t]) hb3);have z0:w3.cell? ⟨t,0,none⟩=some (.int .i64 1):=htk3.cell 0;have z3:w3.cell? ⟨t,3,none⟩=some (.int .i64 0):=htk3.cell 3;have f0:=htk3.free 0;have f3:=htk3.free 3;go_wp2_with fail
    go_ret;exact⟨ret_val (by rw[HR.out];rfl),hfr3,⟨_,i,rfl,htk3,hlx3,hfl⟩,fun h=>by rw[HR.out]at h;cases h⟩
  ·rw[if_neg (by omega)]at hr;have HR:=zh hr;clear hr hpi;have t3:decide ((19:Int)<(n:Int))=false:=by simp;omega
   rcases hno with ⟨hno,hno2⟩|⟨hi,hno⟩
   ·go_in;go_wp2_with fail
    refine(HW.out).mono ?_;rintro e w1 ⟨rfl,hlx,hfr⟩;have htk:=ht.kept hfr (by simp;omega);have c0:=hlx.c0;have c1:=hlx.c1;have g1:=hlx.f1;have hE1:=hE.fr hBb hBt hfr.one;go_wp2_with fail
    go_quiet (fail)
    go_wp2_with fail
    refine(HI.out _ (hE1.drewN _).here).mono ?_;rintro e w3 ⟨rfl,hb3⟩;have hlx3:=(hlx.drewN nq).kept (Fr.of_below (l:=[]) hb3) (by simp);have htk3:=(htk.drewN nq).kept (Fr.of_below (l:=[]) hb3) (by simp);have hfr3:=(hfr.one.drewN nq).trans (Fr.of_below (l:=[b,t]) hb3);have z0:w3.cell? ⟨t,0,none⟩=some (.int .i64 1):=htk3.cell 0;have z3:w3.cell? ⟨t,3,none⟩=some (.int .i64 0):=htk3.cell 3;have f0:=htk3.free 0;have f3:=htk3.free 3;go_wp2_with fail
    have F0:=htk3.set (k':=⟨2,a,0,0,0,[]⟩) 0 (.int .i64 2) rfl;have F1:TokAt t ⟨2,a,0,v,0,[]⟩ ((w3.setCell ⟨t,0,none⟩ (.int .i64 2)).setCell ⟨t,3,none⟩ (.int .i64 v)):=F0.set 3 _ rfl;have F2:=(hlx3.other ⟨t,0,none⟩ (.int .i64 2) hbt).other ⟨t,3,none⟩ (.int .i64 (v:Int)) hbt;have F3:=(hfr3.setCell (l:=[b,t]) ⟨t,0,none⟩ (by simp) (.int .i64 2)).setCell (l:=[b,t]) ⟨t,3,none⟩ (by simp) (.int .i64 (v:Int));go_ret;exact⟨ret_val (by rw[HR.out];rfl),F3,⟨_,i,rfl,F1,F2,hfl⟩,fun _=>by rw[HR.out];exact⟨F1,F2,hfl,rfl⟩⟩
   ·have hi2:decide ((i:Int)<(s.size:Int))=true:=by simp;omega
    go_in;go_wp2_with fail
    refine(HW.out).mono ?_;rintro e w1 ⟨rfl,hlx,hfr⟩;have htk:=ht.kept hfr (by simp;omega);have c0:=hlx.c0;have c1:=hlx.c1;have g1:=hlx.f1;have hE1:=hE.fr hBb hBt hfr.one;go_wp2_with fail
    go_quiet (fail)
    go_wp2_with fail
    refine(HI.out _ (hE1.drewN _).here).mono ?_;rintro e w3 ⟨rfl,hb3⟩;have hlx3:=(hlx.drewN nq).kept (Fr.of_below (l:=[]) hb3) (by simp);have htk3:=(htk.drewN nq).kept (Fr.of_below (l:=[]) hb3) (by simp);have hfr3:=(hfr.one.drewN nq).trans (Fr.of_below (l:=[b,t]) hb3);have z0:w3.cell? ⟨t,0,none⟩=some (.int .i64 1):=htk3.cell 0;have z3:w3.cell? ⟨t,3,none⟩=some (.int .i64 0):=htk3.cell 3;have f0:=htk3.free 0;have f3:=htk3.free 3;go_wp2_with fail
    have F0:=htk3.set (k':=⟨2,a,0,0,0,[]⟩) 0 (.int .i64 2) rfl;have F1:TokAt t ⟨2,a,0,v,0,[]⟩ ((w3.setCell ⟨t,0,none⟩ (.int .i64 2)).setCell ⟨t,3,none⟩ (.int .i64 v)):=F0.set 3 _ rfl;have F2:=(hlx3.other ⟨t,0,none⟩ (.int .i64 2) hbt).other ⟨t,3,none⟩ (.int .i64 (v:Int)) hbt;have F3:=(hfr3.setCell (l:=[b,t]) ⟨t,0,none⟩ (by simp) (.int .i64 2)).setCell (l:=[b,t]) ⟨t,3,none⟩ (by simp) (.int .i64 (v:Int));go_ret;exact⟨ret_val (by rw[HR.out];rfl),F3,⟨_,i,rfl,F1,F2,hfl⟩,fun _=>by rw[HR.out];exact⟨F1,F2,hfl,rfl⟩⟩
 ·rw[if_neg h2]at hpi;have HI:=zh (parseInt_range q (by omega) hpi);rw[if_pos (.inr (by omega))]at hr;have HR:=zh hr;clear hr hpi;by_cases h3:19<n
  ·have t3:decide ((19:Int)<(n:Int))=true:=by simp;omega
   rcases hno with ⟨hno,hno2⟩|⟨hi,hno⟩
   ·go_in;go_wp2_with fail
    refine(HW.out).mono ?_;rintro e w1 ⟨rfl,hlx,hfr⟩;have htk:=ht.kept hfr (by simp;omega);have c0:=hlx.c0;have c1:=hlx.c1;have g1:=hlx.f1;have hE1:=hE.fr hBb hBt hfr.one;go_wp2_with fail
    go_quiet (fail)
    go_wp2_with fail
    refine(HI.out _ (hE1.drewN _).here).mono ?_;rintro e w3 ⟨N,rfl,hb3⟩;have hlx3:=(hlx.drewN nq).kept (Fr.of_below (l:=[]) hb3) (by simp);have htk3:=(htk.drewN nq).kept (Fr.of_below (l:=[]) hb3) (by simp);have hfr3:=(hfr.one.drewN nq).trans (Fr.of_below (l:=[b,t]) hb3);have z0:w3.cell? ⟨t,0,none⟩=some (.int .i64 1):=htk3.cell 0;have z3:w3.cell? ⟨t,3,none⟩=some (.int .i64 0):=htk3.cell 3;have f0:=htk3.free 0;have f3:=htk3.free 3;go_wp2_with fail
    go_ret;exact⟨ret_val (by rw[HR.out];rfl),hfr3,⟨_,i,rfl,htk3,hlx3,hfl⟩,fun h=>by rw[HR.out]at h;cases h⟩
   ·have hi2:decide ((i:Int)<(s.size:Int))=true:=by simp;omega
    go_in;go_wp2_with fail
    refine(HW.out).mono ?_;rintro e w1 ⟨rfl,hlx,hfr⟩;have htk:=ht.kept hfr (by simp;omega);have c0:=hlx.c0;have c1:=hlx.c1;have g1:=hlx.f1;have hE1:=hE.fr hBb hBt hfr.one;go_wp2_with fail
    go_quiet (fail)
    go_wp2_with fail
    refine(HI.out _ (hE1.drewN _).here).mono ?_;rintro e w3 ⟨N,rfl,hb3⟩;have hlx3:=(hlx.drewN nq).kept (Fr.of_below (l:=[]) hb3) (by simp);have htk3:=(htk.drewN nq).kept (Fr.of_below (l:=[]) hb3) (by simp);have hfr3:=(hfr.one.drewN nq).trans (Fr.of_below (l:=[b,t]) hb3);have z0:w3.cell? ⟨t,0,none⟩=some (.int .i64 1):=htk3.cell 0;have z3:w3.cell? ⟨t,3,none⟩=some (.int .i64 0):=htk3.cell 3;have f0:=htk3.free 0;have f3:=htk3.free 3;go_wp2_with fail
    go_ret;exact⟨ret_val (by rw[HR.out];rfl),hfr3,⟨_,i,rfl,htk3,hlx3,hfl⟩,fun h=>by rw[HR.out]at h;cases h⟩
  ·have t3:decide ((19:Int)<(n:Int))=false:=by simp;omega
   rcases hno with ⟨hno,hno2⟩|⟨hi,hno⟩
   ·go_in;go_wp2_with fail
    refine(HW.out).mono ?_;rintro e w1 ⟨rfl,hlx,hfr⟩;have htk:=ht.kept hfr (by simp;omega);have c0:=hlx.c0;have c1:=hlx.c1;have g1:=hlx.f1;have hE1:=hE.fr hBb hBt hfr.one;go_wp2_with fail
    go_quiet (fail)
    go_wp2_with fail
    refine(HI.out _ (hE1.drewN _).here).mono ?_;rintro e w3 ⟨N,rfl,hb3⟩;have hlx3:=(hlx.drewN nq).kept (Fr.of_below (l:=[]) hb3) (by simp);have htk3:=(htk.drewN nq).kept (Fr.of_below (l:=[]) hb3) (by simp);have hfr3:=(hfr.one.drewN nq).trans (Fr.of_below (l:=[b,t]) hb3);have z0:w3.cell? ⟨t,0,none⟩=some (.int .i64 1):=htk3.cell 0;have z3:w3.cell? ⟨t,3,none⟩=some (.int .i64 0):=htk3.cell 3;have f0:=htk3.free 0;have f3:=htk3.free 3;go_wp2_with fail
    go_ret;exact⟨ret_val (by rw[HR.out];rfl),hfr3,⟨_,i,rfl,htk3,hlx3,hfl⟩,fun h=>by rw[HR.out]at h;cases h⟩
   ·have hi2:decide ((i:Int)<(s.size:Int))=true:=by simp;omega
    go_in;go_wp2_with fail
    refine(HW.out).mono ?_;rintro e w1 ⟨rfl,hlx,hfr⟩;have htk:=ht.kept hfr (by simp;omega);have c0:=hlx.c0;have c1:=hlx.c1;have g1:=hlx.f1;have hE1:=hE.fr hBb hBt hfr.one;go_wp2_with fail
    go_quiet (fail)
    go_wp2_with fail
    refine(HI.out _ (hE1.drewN _).here).mono ?_;rintro e w3 ⟨N,rfl,hb3⟩;have hlx3:=(hlx.drewN nq).kept (Fr.of_below (l:=[]) hb3) (by simp);have htk3:=(htk.drewN nq).kept (Fr.of_below (l:=[]) hb3) (by simp);have hfr3:=(hfr.one.drewN nq).trans (Fr.of_below (l:=[b,t]) hb3);have z0:w3.cell? ⟨t,0,none⟩=some (.int .i64 1):=htk3.cell 0;have z3:w3.cell? ⟨t,3,none⟩=some (.int .i64 0):=htk3.cell 3;have f0:=htk3.free 0;have f3:=htk3.free 3;go_wp2_with fail
    go_ret;exact⟨ret_val (by rw[HR.out];rfl),hfr3,⟨_,i,rfl,htk3,hlx3,hfl⟩,fun h=>by rw[HR.out]at h;cases h⟩
end
section
open Go.RowKit
theorem EnvB.drew {B:Nat} {w:World} (h:EnvB B w):Env w.drew:=h.2 _ ⟨rfl,rfl,rfl,Nat.le_refl _,fun _ _=>rfl⟩
theorem TokAt.drew {t:Nat} {k:Tk} {w:World} (h:TokAt t k w):TokAt t k w.drew:=h
theorem LexAt.drew {b:Nat} {s:ByteArray} {a:Nat} {w:World} (h:LexAt b s a w):LexAt b s a w.drew:=h
/-- no '-' stands at a place -/
def NoM (s:ByteArray) (i:Nat):Prop:=(decide ((i:Int)<(s.size:Int))=false∧¬ i<s.size)∨∃ h:i<s.size,(((s[i]'h).toNat:Int)==45)=false
theorem number_flt0 (s:ByteArray) (hs:s.size≤1000000) (a b t B:Nat) (ha:a≤s.size) (hbt:b≠t) (hBb:B≤b) (hBt:B≤t) (w:World) (hb:LexAt b s a w) (ht:TokAt t ⟨1,a,0,0,0,[]⟩ w) (hE:EnvB B w)
  (hp:s.data.toList[a+far isDig s.data.toList a]?=some 112) (hm:NoM s (a+far isDig s.data.toList a+1)) :
  Calls Tryz.prog 85 #[.pointer (some ⟨b,0,none⟩),.pointer (some ⟨t,0,none⟩)] w (Reads b t s a (numS s.data.toList a) w):=by
 have hl:s.data.toList.length=s.size:=by simp
 have hw:=while_any 84 enters_digit isDig (isDigit_any) s hs a b ha w hb;rw[part_bytes s a (a+far isDig s.data.toList a)]at hw;have HW:=zh hw;clear hw;have hr:=numS.eq_def s.data.toList a;simp only at hr;rw[if_pos hp]at hr;have HR:=zh hr;clear hr;obtain⟨hi,h112⟩:=(at_byte s _ 112).1 hp;generalize hai:a+far isDig s.data.toList a=i at *;have h112':(((s[i]'hi).toNat:Int)==112)=true:=h112;have hi2:decide ((i:Int)<(s.size:Int))=true:=by simp;omega
 clear hp h112;rcases hm with ⟨hm1,hm2⟩|⟨hm1,hm2⟩
 ·go_in;go_wp2_with fail
  refine(HW.out).mono ?_;rintro e w1 ⟨rfl,hlx,hfr⟩;have htk:=ht.kept hfr (by simp;omega);have c0:=hlx.c0;have c1:=hlx.c1;have g1:=hlx.f1;have hE1:=hE.fr hBb hBt hfr.one;go_wp2_with fail
  go_quiet (fail)
  go_wp2_with fail
  have A1:LexAt b s (i+1) ((w1.drewN nq).setCell ⟨b,1,none⟩ (.int .i64 ((i:Int)+1))):=(hlx.drewN nq).put (i+1);have A2:=(htk.drewN nq).other ⟨b,1,none⟩ (.int .i64 ((i:Int)+1)) (Ne.symm hbt);have A3:=(hfr.one (t:=t) |>.drewN nq).setCell (l:=[b,t]) ⟨b,1,none⟩ (by simp) (.int .i64 ((i:Int)+1));generalize (w1.drewN nq).setCell ⟨b,1,none⟩ (.int .i64 ((i:Int)+1))=W2 at *;generalize hi1:i+1=j at *;have b0:=A1.c0;have b1:=A1.c1;have m1:=A1.f1;have hE2:=hE.fr hBb hBt A3;have hnm:¬ s.data.toList[j]?=some 45:=by
   intro h;obtain⟨h1,_⟩:=(at_byte s j 45).1 h;exact hm2 h1
  rw[if_neg hnm]at HR;have hfw:=far_le isDig s.data.toList (a:=j) (by rw[hl];omega);rw[hl]at hfw;have HV:=zh (fun w h=>while_any 84 enters_digit isDig (isDigit_any) s hs j b (by omega) w h);rw[part_bytes s j (j+far isDig s.data.toList j)]at HV;have hlen:=part_length (l:=s.data.toList) (a:=j) (e:=j+far isDig s.data.toList j) (by rw[hl];exact hfw);rw[show j+far isDig s.data.toList j - j=far isDig s.data.toList j by omega]at hlen;by_cases hz:far isDig s.data.toList j=0
  ·have hq:part s.data.toList j (j+far isDig s.data.toList j)=[]:=List.length_eq_zero_iff.1 (by rw[hlen];exact hz);rw[hq]at HV;clear hq hlen;go_wp2_with fail
   go_quiet (fail)
   go_wp2_with fail
   refine(HV.out _ (A1.drewN _)).mono ?_;rintro e w3 ⟨rfl,hlx3,hfr3⟩;go_wp2_with fail
   have htk3:=(A2.drewN nq).kept hfr3 (by simp;omega);have hr2:=HR.out;rw[if_pos hz]at hr2;have HR2:=zh hr2;clear hr2;go_ret;exact⟨ret_val (by rw[HR2.out];rfl),(A3.drewN nq).trans hfr3.one,⟨_,_,rfl,htk3,hlx3,hfw⟩,fun h=>by rw[HR2.out]at h;cases h⟩
  ·have hr2:=HR.out;rw[if_neg hz]at hr2;have HR2:=zh hr2;clear hr2 HR;have hq:(part s.data.toList j (j+far isDig s.data.toList j)==[])=false:=by
    rw[beq_eq_false_iff_ne];intro e;rw[e]at hlen;simp at hlen;omega
   generalize hcc:j+far isDig s.data.toList j=c at *;have hac:a≤c:=by omega
   have hp2:=part_length (l:=s.data.toList) (a:=a) (e:=c) (by rw[hl];exact hfw);have HP:=parse_any (part s.data.toList a c) (by omega);rw[←part_bytes s a c]at HP;have HP:=zh HP;generalize (parseB (part s.data.toList a c)).1=x at *;generalize (parseB (part s.data.toList a c)).2=y at *;generalize part s.data.toList j c=q at *;clear hz hlen hp2;go_wp2_with fail
   go_quiet (fail)
   go_wp2_with fail
   refine(HV.out _ (A1.drewN _)).mono ?_;rintro e w3 ⟨rfl,hlx3,hfr3⟩;have htk3:=(A2.drewN nq).kept hfr3 (by simp;omega);have hf3:=(A3.drewN nq).trans hfr3.one;have z0:w3.cell? ⟨t,0,none⟩=some (.int .i64 1):=htk3.cell 0;have f0:=htk3.free 0;have hE4:EnvB B (w3.setCell ⟨t,0,none⟩ (.int .i64 3)):=hE.fr hBb hBt (hf3.setCell (l:=[b,t]) ⟨t,0,none⟩ (by simp) (.int .i64 3));have htk4:TokAt t ⟨3,a,0,0,0,[]⟩ (w3.setCell ⟨t,0,none⟩ (.int .i64 3)):=htk3.set 0 _ rfl;have hlx4:=hlx3.other ⟨t,0,none⟩ (.int .i64 3) hbt;have hf4:=hf3.setCell (l:=[b,t]) ⟨t,0,none⟩ (by simp) (.int .i64 3);go_wp2_with fail
   generalize w3.setCell ⟨t,0,none⟩ (.int .i64 3)=W4 at *;have l0:=hlx4.c0;have l1:=hlx4.c1;have t1:W4.cell? ⟨t,1,none⟩=some (.int .i64 a):=htk4.cell 1;have w3':(c:Int)≤(s.size:Int):=by omega
   have w4':(0:Int)≤(a:Int):=by omega
   have w5':(a:Int)≤(c:Int):=by omega
   have hst:=store_float;clear HV HW hfr3 hlx hlx3 htk htk3 A1 A2 A3 c0 c1 g1 b0 b1 m1 hE1 hE2 hnm hm1 hm2 hq z0 f0 hb ht;go_region_held3 (fun w'=>w'.cell? ⟨b,0,none⟩=some (.string s)∧w'.cell? ⟨b,1,none⟩=some (.int .i64 (c:Int))∧w'.cell? ⟨t,1,none⟩=some (.int .i64 (a:Int))) (first|exact⟨l0,l1,t1⟩|exact⟨hlx5.c0,hlx5.c1,htk5.cell 1⟩|exact⟨(cell_kept hbt).trans hlx5.c0,(cell_kept hbt).trans hlx5.c1,(TokAt.set (k':=⟨3,a,0,0,x,[]⟩) htk5 4 (.float .f64 x) rfl).cell 1⟩)
    ((go_at_call 112;refine(HP.out _ hE4.drew).mono ?_;rintro e w5 ⟨rfl,hb5⟩;have hf5:=Fr.of_below (l:=[]) hb5;have htk5:TokAt t ⟨3,a,0,0,0,[]⟩ w5:=TokAt.kept htk4.drew hf5 (by simp);have hlx5:LexAt b s c w5:=LexAt.kept hlx4.drew hf5 (by simp);have hf6:Fr [b,t] w w5:=hf4.drew.trans (Fr.of_below (l:=[b,t]) hb5);have z4:w5.cell? ⟨t,4,none⟩=some (.float .f64 0):=htk5.cell 4;have f4:=htk5.free 4))
   all_goals go_wp2_with fail
   go_ret;have F1:TokAt t ⟨3,a,0,0,x,[]⟩ (w5.setCell ⟨t,4,none⟩ (.float .f64 x)):=htk5.set 4 _ rfl;have F2:=hlx5.other ⟨t,4,none⟩ (.float .f64 x) hbt;have F3:=hf6.setCell (l:=[b,t]) ⟨t,4,none⟩ (by simp) (.float .f64 x);exact⟨ret_val (by rw[HR2.out];rfl),F3,⟨_,c,rfl,F1,F2,hfw⟩,fun _=>by rw[HR2.out];exact⟨F1,F2,hfw,rfl⟩⟩
 ·go_in;go_wp2_with fail
  refine(HW.out).mono ?_;rintro e w1 ⟨rfl,hlx,hfr⟩;have htk:=ht.kept hfr (by simp;omega);have c0:=hlx.c0;have c1:=hlx.c1;have g1:=hlx.f1;have hE1:=hE.fr hBb hBt hfr.one;go_wp2_with fail
  go_quiet (fail)
  go_wp2_with fail
  have A1:LexAt b s (i+1) ((w1.drewN nq).setCell ⟨b,1,none⟩ (.int .i64 ((i:Int)+1))):=(hlx.drewN nq).put (i+1);have A2:=(htk.drewN nq).other ⟨b,1,none⟩ (.int .i64 ((i:Int)+1)) (Ne.symm hbt);have A3:=(hfr.one (t:=t) |>.drewN nq).setCell (l:=[b,t]) ⟨b,1,none⟩ (by simp) (.int .i64 ((i:Int)+1));generalize (w1.drewN nq).setCell ⟨b,1,none⟩ (.int .i64 ((i:Int)+1))=W2 at *;generalize hi1:i+1=j at *;have hj2:decide ((j:Int)<(s.size:Int))=true:=by simp;omega
  have b0:=A1.c0;have b1:=A1.c1;have m1:=A1.f1;have hE2:=hE.fr hBb hBt A3;have hnm:¬ s.data.toList[j]?=some 45:=by
   intro h;have h2:=(at_byte s j 45).1 h;obtain⟨_,h3⟩:=h2;rw[show(((45:UInt8).toNat:Nat):Int)=45 from rfl,hm2]at h3;cases h3
  rw[if_neg hnm]at HR;have hfw:=far_le isDig s.data.toList (a:=j) (by rw[hl];omega);rw[hl]at hfw;have HV:=zh (fun w h=>while_any 84 enters_digit isDig (isDigit_any) s hs j b (by omega) w h);rw[part_bytes s j (j+far isDig s.data.toList j)]at HV;have hlen:=part_length (l:=s.data.toList) (a:=j) (e:=j+far isDig s.data.toList j) (by rw[hl];exact hfw);rw[show j+far isDig s.data.toList j - j=far isDig s.data.toList j by omega]at hlen;by_cases hz:far isDig s.data.toList j=0
  ·have hq:part s.data.toList j (j+far isDig s.data.toList j)=[]:=List.length_eq_zero_iff.1 (by rw[hlen];exact hz);rw[hq]at HV;clear hq hlen;go_wp2_with fail
   go_quiet (fail)
   go_wp2_with fail
   refine(HV.out _ (A1.drewN _)).mono ?_;rintro e w3 ⟨rfl,hlx3,hfr3⟩;go_wp2_with fail
   have htk3:=(A2.drewN nq).kept hfr3 (by simp;omega);have hr2:=HR.out;rw[if_pos hz]at hr2;have HR2:=zh hr2;clear hr2;go_ret;exact⟨ret_val (by rw[HR2.out];rfl),(A3.drewN nq).trans hfr3.one,⟨_,_,rfl,htk3,hlx3,hfw⟩,fun h=>by rw[HR2.out]at h;cases h⟩
  ·have hr2:=HR.out;rw[if_neg hz]at hr2;have HR2:=zh hr2;clear hr2 HR;have hq:(part s.data.toList j (j+far isDig s.data.toList j)==[])=false:=by
    rw[beq_eq_false_iff_ne];intro e;rw[e]at hlen;simp at hlen;omega
   generalize hcc:j+far isDig s.data.toList j=c at *;have hac:a≤c:=by omega
   have hp2:=part_length (l:=s.data.toList) (a:=a) (e:=c) (by rw[hl];exact hfw);have HP:=parse_any (part s.data.toList a c) (by omega);rw[←part_bytes s a c]at HP;have HP:=zh HP;generalize (parseB (part s.data.toList a c)).1=x at *;generalize (parseB (part s.data.toList a c)).2=y at *;generalize part s.data.toList j c=q at *;clear hz hlen hp2;go_wp2_with fail
   go_quiet (fail)
   go_wp2_with fail
   refine(HV.out _ (A1.drewN _)).mono ?_;rintro e w3 ⟨rfl,hlx3,hfr3⟩;have htk3:=(A2.drewN nq).kept hfr3 (by simp;omega);have hf3:=(A3.drewN nq).trans hfr3.one;have z0:w3.cell? ⟨t,0,none⟩=some (.int .i64 1):=htk3.cell 0;have f0:=htk3.free 0;have hE4:EnvB B (w3.setCell ⟨t,0,none⟩ (.int .i64 3)):=hE.fr hBb hBt (hf3.setCell (l:=[b,t]) ⟨t,0,none⟩ (by simp) (.int .i64 3));have htk4:TokAt t ⟨3,a,0,0,0,[]⟩ (w3.setCell ⟨t,0,none⟩ (.int .i64 3)):=htk3.set 0 _ rfl;have hlx4:=hlx3.other ⟨t,0,none⟩ (.int .i64 3) hbt;have hf4:=hf3.setCell (l:=[b,t]) ⟨t,0,none⟩ (by simp) (.int .i64 3);go_wp2_with fail
   generalize w3.setCell ⟨t,0,none⟩ (.int .i64 3)=W4 at *;have l0:=hlx4.c0;have l1:=hlx4.c1;have t1:W4.cell? ⟨t,1,none⟩=some (.int .i64 a):=htk4.cell 1;have w3':(c:Int)≤(s.size:Int):=by omega
   have w4':(0:Int)≤(a:Int):=by omega
   have w5':(a:Int)≤(c:Int):=by omega
   have hst:=store_float;clear HV HW hfr3 hlx hlx3 htk htk3 A1 A2 A3 c0 c1 g1 b0 b1 m1 hE1 hE2 hnm hq z0 f0 hb ht;go_region_held3 (fun w'=>w'.cell? ⟨b,0,none⟩=some (.string s)∧w'.cell? ⟨b,1,none⟩=some (.int .i64 (c:Int))∧w'.cell? ⟨t,1,none⟩=some (.int .i64 (a:Int))) (first|exact⟨l0,l1,t1⟩|exact⟨hlx5.c0,hlx5.c1,htk5.cell 1⟩|exact⟨(cell_kept hbt).trans hlx5.c0,(cell_kept hbt).trans hlx5.c1,(TokAt.set (k':=⟨3,a,0,0,x,[]⟩) htk5 4 (.float .f64 x) rfl).cell 1⟩)
    ((go_at_call 112;refine(HP.out _ hE4.drew).mono ?_;rintro e w5 ⟨rfl,hb5⟩;have hf5:=Fr.of_below (l:=[]) hb5;have htk5:TokAt t ⟨3,a,0,0,0,[]⟩ w5:=TokAt.kept htk4.drew hf5 (by simp);have hlx5:LexAt b s c w5:=LexAt.kept hlx4.drew hf5 (by simp);have hf6:Fr [b,t] w w5:=hf4.drew.trans (Fr.of_below (l:=[b,t]) hb5);have z4:w5.cell? ⟨t,4,none⟩=some (.float .f64 0):=htk5.cell 4;have f4:=htk5.free 4))
   all_goals go_wp2_with fail
   go_ret;have F1:TokAt t ⟨3,a,0,0,x,[]⟩ (w5.setCell ⟨t,4,none⟩ (.float .f64 x)):=htk5.set 4 _ rfl;have F2:=hlx5.other ⟨t,4,none⟩ (.float .f64 x) hbt;have F3:=hf6.setCell (l:=[b,t]) ⟨t,4,none⟩ (by simp) (.float .f64 x);exact⟨ret_val (by rw[HR2.out];rfl),F3,⟨_,c,rfl,F1,F2,hfw⟩,fun _=>by rw[HR2.out];exact⟨F1,F2,hfw,rfl⟩⟩
end
section
open Go.RowKit
theorem number_flt1 (s:ByteArray) (hs:s.size≤1000000) (a b t B:Nat) (ha:a≤s.size) (hbt:b≠t) (hBb:B≤b) (hBt:B≤t) (w:World) (hb:LexAt b s a w) (ht:TokAt t ⟨1,a,0,0,0,[]⟩ w) (hE:EnvB B w)
  (hp:s.data.toList[a+far isDig s.data.toList a]?=some 112) (hm:s.data.toList[a+far isDig s.data.toList a+1]?=some 45) :
  Calls Tryz.prog 85 #[.pointer (some ⟨b,0,none⟩),.pointer (some ⟨t,0,none⟩)] w (Reads b t s a (numS s.data.toList a) w):=by
 have hl:s.data.toList.length=s.size:=by simp
 have hw:=while_any 84 enters_digit isDig (isDigit_any) s hs a b ha w hb;rw[part_bytes s a (a+far isDig s.data.toList a)]at hw;have HW:=zh hw;clear hw;have hr:=numS.eq_def s.data.toList a;simp only at hr;rw[if_pos hp]at hr;have HR:=zh hr;clear hr;obtain⟨hi,h112⟩:=(at_byte s _ 112).1 hp;generalize hai:a+far isDig s.data.toList a=i at *;have h112':(((s[i]'hi).toNat:Int)==112)=true:=h112;have hi2:decide ((i:Int)<(s.size:Int))=true:=by simp;omega
 obtain⟨hm1,hm2⟩:=(at_byte s _ 45).1 hm;clear hp h112;go_in;go_wp2_with fail
 refine(HW.out).mono ?_;rintro e w1 ⟨rfl,hlx,hfr⟩;have htk:=ht.kept hfr (by simp;omega);have c0:=hlx.c0;have c1:=hlx.c1;have g1:=hlx.f1;have hE1:=hE.fr hBb hBt hfr.one;go_wp2_with fail
 go_quiet (fail)
 go_wp2_with fail
 have A1:LexAt b s (i+1) ((w1.drewN nq).setCell ⟨b,1,none⟩ (.int .i64 ((i:Int)+1))):=(hlx.drewN nq).put (i+1);have A2:=(htk.drewN nq).other ⟨b,1,none⟩ (.int .i64 ((i:Int)+1)) (Ne.symm hbt);have A3:=(hfr.one (t:=t) |>.drewN nq).setCell (l:=[b,t]) ⟨b,1,none⟩ (by simp) (.int .i64 ((i:Int)+1));generalize (w1.drewN nq).setCell ⟨b,1,none⟩ (.int .i64 ((i:Int)+1))=W2 at *;generalize hi1:i+1=m at *;have hm2':(((s[m]'hm1).toNat:Int)==45)=true:=hm2;have hj2:decide ((m:Int)<(s.size:Int))=true:=by simp;omega
 have b0:=A1.c0;have b1:=A1.c1;have m1:=A1.f1;have hE2:=hE.fr hBb hBt A3;rw[if_pos hm]at HR;go_wp2_with fail
 go_quiet (fail)
 go_wp2_with fail
 have B1:LexAt b s (m+1) ((W2.drewN nq).setCell ⟨b,1,none⟩ (.int .i64 ((m:Int)+1))):=(A1.drewN nq).put (m+1);have B2:=(A2.drewN nq).other ⟨b,1,none⟩ (.int .i64 ((m:Int)+1)) (Ne.symm hbt);have B3:=(A3.drewN nq).setCell (l:=[b,t]) ⟨b,1,none⟩ (by simp) (.int .i64 ((m:Int)+1));generalize (W2.drewN nq).setCell ⟨b,1,none⟩ (.int .i64 ((m:Int)+1))=W3 at *;have hi2':i+2=m+1:=by omega
 rw[hi2']at HR;generalize hj1:m+1=j at *;clear b0 b1 m1 hE2 A1 A2 A3 W2 hi2';have A1:=B1;have A2:=B2;have A3:=B3;clear B1 B2 B3;have b0:=A1.c0;have b1:=A1.c1;have m1:=A1.f1;have hfw:=far_le isDig s.data.toList (a:=j) (by rw[hl];omega);rw[hl]at hfw;have HV:=zh (fun w h=>while_any 84 enters_digit isDig (isDigit_any) s hs j b (by omega) w h);rw[part_bytes s j (j+far isDig s.data.toList j)]at HV;have hlen:=part_length (l:=s.data.toList) (a:=j) (e:=j+far isDig s.data.toList j) (by rw[hl];exact hfw);rw[show j+far isDig s.data.toList j - j=far isDig s.data.toList j by omega]at hlen;by_cases hz:far isDig s.data.toList j=0
 ·have hq:part s.data.toList j (j+far isDig s.data.toList j)=[]:=List.length_eq_zero_iff.1 (by rw[hlen];exact hz);rw[hq]at HV;clear hq hlen;refine(HV.out _ A1).mono ?_;rintro e w3 ⟨rfl,hlx3,hfr3⟩;go_wp2_with fail
  have htk3:=A2.kept hfr3 (by simp;omega);have hr2:=HR.out;rw[if_pos hz]at hr2;have HR2:=zh hr2;clear hr2;go_ret;exact⟨ret_val (by rw[HR2.out];rfl),A3.trans hfr3.one,⟨_,_,rfl,htk3,hlx3,hfw⟩,fun h=>by rw[HR2.out]at h;cases h⟩
 ·have hr2:=HR.out;rw[if_neg hz]at hr2;have HR2:=zh hr2;clear hr2 HR;have hq:(part s.data.toList j (j+far isDig s.data.toList j)==[])=false:=by
   rw[beq_eq_false_iff_ne];intro e;rw[e]at hlen;simp at hlen;omega
  generalize hcc:j+far isDig s.data.toList j=c at *;have hac:a≤c:=by omega
  have hp2:=part_length (l:=s.data.toList) (a:=a) (e:=c) (by rw[hl];exact hfw);have HP:=parse_any (part s.data.toList a c) (by omega);rw[←part_bytes s a c]at HP;have HP:=zh HP;generalize (parseB (part s.data.toList a c)).1=x at *;generalize (parseB (part s.data.toList a c)).2=y at *;generalize part s.data.toList j c=q at *;clear hz hlen hp2;refine(HV.out _ A1).mono ?_;rintro e w3 ⟨rfl,hlx3,hfr3⟩;have htk3:=A2.kept hfr3 (by simp;omega);have hf3:=A3.trans hfr3.one;have z0:w3.cell? ⟨t,0,none⟩=some (.int .i64 1):=htk3.cell 0;have f0:=htk3.free 0;have hE4:EnvB B (w3.setCell ⟨t,0,none⟩ (.int .i64 3)):=hE.fr hBb hBt (hf3.setCell (l:=[b,t]) ⟨t,0,none⟩ (by simp) (.int .i64 3));have htk4:TokAt t ⟨3,a,0,0,0,[]⟩ (w3.setCell ⟨t,0,none⟩ (.int .i64 3)):=htk3.set 0 _ rfl;have hlx4:=hlx3.other ⟨t,0,none⟩ (.int .i64 3) hbt;have hf4:=hf3.setCell (l:=[b,t]) ⟨t,0,none⟩ (by simp) (.int .i64 3);go_wp2_with fail
  generalize w3.setCell ⟨t,0,none⟩ (.int .i64 3)=W4 at *;have l0:=hlx4.c0;have l1:=hlx4.c1;have t1:W4.cell? ⟨t,1,none⟩=some (.int .i64 a):=htk4.cell 1;have w3':(c:Int)≤(s.size:Int):=by omega
  have w4':(0:Int)≤(a:Int):=by omega
  have w5':(a:Int)≤(c:Int):=by omega
  have hst:=store_float;clear HV HW hfr3 hlx hlx3 htk htk3 A1 A2 A3 c0 c1 g1 b0 b1 m1 hE1 hq z0 f0 hb ht;go_region_held3 (fun w'=>w'.cell? ⟨b,0,none⟩=some (.string s)∧w'.cell? ⟨b,1,none⟩=some (.int .i64 (c:Int))∧w'.cell? ⟨t,1,none⟩=some (.int .i64 (a:Int))) (first|exact⟨l0,l1,t1⟩|exact⟨hlx5.c0,hlx5.c1,htk5.cell 1⟩|exact⟨(cell_kept hbt).trans hlx5.c0,(cell_kept hbt).trans hlx5.c1,(TokAt.set (k':=⟨3,a,0,0,x,[]⟩) htk5 4 (.float .f64 x) rfl).cell 1⟩)
   ((go_at_call 112;refine(HP.out _ hE4.drew).mono ?_;rintro e w5 ⟨rfl,hb5⟩;have hf5:=Fr.of_below (l:=[]) hb5;have htk5:TokAt t ⟨3,a,0,0,0,[]⟩ w5:=TokAt.kept htk4.drew hf5 (by simp);have hlx5:LexAt b s c w5:=LexAt.kept hlx4.drew hf5 (by simp);have hf6:Fr [b,t] w w5:=hf4.drew.trans (Fr.of_below (l:=[b,t]) hb5);have z4:w5.cell? ⟨t,4,none⟩=some (.float .f64 0):=htk5.cell 4;have f4:=htk5.free 4))
  all_goals go_wp2_with fail
  go_ret;have F1:TokAt t ⟨3,a,0,0,x,[]⟩ (w5.setCell ⟨t,4,none⟩ (.float .f64 x)):=htk5.set 4 _ rfl;have F2:=hlx5.other ⟨t,4,none⟩ (.float .f64 x) hbt;have F3:=hf6.setCell (l:=[b,t]) ⟨t,4,none⟩ (by simp) (.float .f64 x);exact⟨ret_val (by rw[HR2.out];rfl),F3,⟨_,c,rfl,F1,F2,hfw⟩,fun _=>by rw[HR2.out];exact⟨F1,F2,hfw,rfl⟩⟩
end
section
open Go.RowKit
theorem noByte {s:ByteArray} {i:Nat} {c:UInt8} (h:¬ s.data.toList[i]?=some c):(decide ((i:Int)<(s.size:Int))=false∧¬ i<s.size)∨∃ h:i<s.size,(((s[i]'h).toNat:Int)==(c.toNat:Int))=false:=by
 by_cases hi:i<s.size
 ·refine .inr ⟨hi,?_⟩;rw[beq_eq_false_iff_ne];intro e;exact h ((at_byte s i c).2 ⟨hi,by rw[beq_iff_eq];exact e⟩)
 ·exact .inl ⟨by simp;omega,hi⟩
theorem lnumber_any (s:ByteArray) (hs:s.size≤1000000) (a b t B:Nat) (ha:a≤s.size) (hbt:b≠t) (hBb:B≤b) (hBt:B≤t) (w:World) (hb:LexAt b s a w) (ht:TokAt t ⟨1,a,0,0,0,[]⟩ w) (hE:EnvB B w)
  (h1:1≤far isDig s.data.toList a) :
  Calls Tryz.prog 85 #[.pointer (some ⟨b,0,none⟩),.pointer (some ⟨t,0,none⟩)] w (Reads b t s a (numS s.data.toList a) w):=by
 by_cases hp:s.data.toList[a+far isDig s.data.toList a]?=some 112
 ·by_cases hm:s.data.toList[a+far isDig s.data.toList a+1]?=some 45
  ·exact number_flt1 s hs a b t B ha hbt hBb hBt w hb ht hE hp hm
  ·exact number_flt0 s hs a b t B ha hbt hBb hBt w hb ht hE hp (noByte hm)
 ·exact number_int s hs a b t B ha hbt hBb hBt w hb ht hE h1 hp (noByte hp)
end
section
open Go.RowKit
/-- a builder of the call's own -/
def LBl (B g:Nat) (o:List UInt8) (w:World):Prop:=Lib.IsBuilderF 52 5 B g (Lib.byteCells o) w
theorem LBl.drewN {B g:Nat} {o:List UInt8} {w:World} (h:LBl B g o w) (n:Nat):LBl B g o (w.drewN n):=h
theorem LBl.drew {B g:Nat} {o:List UInt8} {w:World} (h:LBl B g o w):LBl B g o w.drew:=h
theorem LBl.put {B g:Nat} {o:List UInt8} {w:World} (h:LBl B g o w) (p:Addr) (x:Value) {cs:Array Value} {T:TypeId} {fz:Nat × Nat} (hp:w.heap[p.block]?=some (.cells cs T fz)) (hT:T≠5) (hne:g≠p.block):LBl B g o (w.setCell p x):=by
 rcases h with h|h<;>obtain⟨hB,v,hb,hown,hn⟩:=h
 ·exact .inl ⟨hB,v,(Below.heap_setCell _ _ _ _ hne).trans hb,hown.kept (row:=some p.block) ⟨rfl,rfl,rfl,by simp[World.setCell],fun k _ hk=>Below.heap_setCell _ _ _ _ (fun e=>hk (by simp[e]))⟩ (Or.inr (Lib.ownBlock_neF hown hp hT)),hn⟩
 ·exact .inr ⟨hB,v,(Below.heap_setCell _ _ _ _ hne).trans hb,hown.kept (row:=some p.block) ⟨rfl,rfl,rfl,by simp[World.setCell],fun k _ hk=>Below.heap_setCell _ _ _ _ (fun e=>hk (by simp[e]))⟩ (Or.inr (Lib.ownBlock_neF hown hp hT)),hn⟩
theorem LBl.fresh (w:World):LBl w.heap.size w.heap.size [] (w.alloc (.cells #[.pointer none,.slice none 0 0] 52)) :=
 .inl ⟨Nat.le_refl _,.slice none 0 0,heap_alloc_new w _,⟨rfl,.inl ⟨rfl,rfl⟩⟩,by simp[Value.ownBlock]⟩
theorem LBl.write {B g:Nat} {o:List UInt8} {w:World} (h:LBl B g o w) (hlen:o.length≤1000000) (hBw:B≤w.heap.size) (c:UInt8) :
  Calls Tryz.prog 48 #[.pointer (some ⟨g,0,none⟩),.int .u8 c.toNat] w fun e w'=>e=.returned .nilIface∧LBl B g (o++[c]) w'∧Below B w w' :=
 (writeByte_any B g (Lib.byteCells o) c.toNat w h (by rw[Lib.byteCells_length];omega) hBw).mono fun _ _ ⟨he,h1,h2,_⟩=>⟨he,.inr (by rw[Lib.byteCells_append];exact h1),h2⟩
theorem LBl.len {B g:Nat} {o:List UInt8} {w:World} (h:LBl B g o w) :
  Calls Tryz.prog 114 #[.pointer (some ⟨g,0,none⟩)] w fun e w'=>e=.returned (.int .i64 o.length)∧w=w' :=
 (Tryz.Builder_Len_f B g (Lib.byteCells o) w h).mono fun _ _ ⟨he,h2⟩=>⟨by rw[he,Lib.byteCells_length],h2.symm⟩
theorem LBl.text {B g:Nat} {o:List UInt8} {w:World} (h:LBl B g o w) (hBw:B≤w.heap.size) :
  Calls Tryz.prog 23 #[.pointer (some ⟨g,0,none⟩)] w fun e w'=>e=.returned (.string ⟨o.toArray⟩)∧LBl B g o w'∧Below B w w' :=
 (Tryz.Builder_String_any_k B g o w h hBw).mono fun _ _ ⟨he,h1,h2,_⟩=>⟨he,h1,h2⟩
theorem LexAt.below {b B:Nat} {s:ByteArray} {a:Nat} {w w':World} (h:LexAt b s a w) (hb:Below B w w') (hlt:b<B):LexAt b s a w':=(hb.block b hlt).trans h
theorem TokAt.below {t B:Nat} {k:Tk} {w w':World} (h:TokAt t k w) (hb:Below B w w') (hlt:t<B):TokAt t k w':=(hb.block t hlt).trans h
theorem byte_at (s:ByteArray) (k:Nat) (h:k<s.size):s.data.toList[k]?=some (s[k]'h):=by
 rw[List.getElem?_eq_getElem (by simpa using h)];rfl
theorem str_any (s:ByteArray) (hs:s.size≤1000000) (a b t:Nat) (ha:a<s.size) (hbt:b≠t) (w:World) (hb:LexAt b s a w) (ht:TokAt t ⟨1,a,0,0,0,[]⟩ w) :
  Calls Tryz.prog 88 #[.pointer (some ⟨b,0,none⟩),.pointer (some ⟨t,0,none⟩)] w (Reads b t s a (strS s.data.toList a) w):=by
 have hl:s.data.toList.length=s.size:=by simp
 have HL:=zh hl;clear hl;have d0:=hb.c0;have d1:=hb.c1;have d2:=hb.f1;have hblt:=lt_of_block hb;have htlt:=lt_of_block ht;have hbne:b≠w.heap.size:=by omega
 have htne:t≠w.heap.size:=by omega
 go_in;go_wp2_with fail
 have G0:LexAt b s (a+1) (w.setCell ⟨b,1,none⟩ (.int .i64 ((a:Int)+1))):=hb.put (a+1);have G1:=ht.other ⟨b,1,none⟩ (.int .i64 ((a:Int)+1)) (Ne.symm hbt);have G2:=(Fr.refl [b,t] w).setCell ⟨b,1,none⟩ (by simp) (.int .i64 ((a:Int)+1));have G3:=LBl.fresh (w.setCell ⟨b,1,none⟩ (.int .i64 ((a:Int)+1)));have hsz:(w.setCell ⟨b,1,none⟩ (.int .i64 ((a:Int)+1))).heap.size=w.heap.size:=by simp[World.setCell]
 rw[hsz]at G3;generalize w.setCell ⟨b,1,none⟩ (.int .i64 ((a:Int)+1))=W0 at *;have G4:=(Fr.refl [] W0).alloc (.cells #[.pointer none,.slice none 0 0] 52);have H0:=G0.kept G4 (by simp);have H1:=G1.kept G4 (by simp);have H2:=G2.alloc (.cells #[.pointer none,.slice none 0 0] 52);generalize W0.alloc (.cells #[.pointer none,.slice none 0 0] 52)=W1 at *;have HM:=Marked.start s.data.toList a;clear G0 G1 G2 G4 hsz d0 d1 d2;generalize hgh:w.heap.size=H at *;go_loopw [] (fun wr=>∃ (k:Nat) (o:List UInt8),k≤s.size∧LexAt b s k wr∧TokAt t ⟨1,a,0,0,0,[]⟩ wr∧Fr [b,t] w wr∧LBl H H o wr∧Marked s.data.toList a k o) (fun wr=>match wr.cell? ⟨b,1,none⟩ with|some v=>s.size - (intOf v).toNat|none=>0)
 case atStart=>exact⟨a+1,[],by omega,H0,H1,H2,G3,HM⟩
 case round =>
  obtain⟨k,o,hk,hlx,htk,hfr,hbd,hmk⟩:=hrel;have l0:=hlx.c0;have l1:=hlx.c1;have m1:=hlx.f1;have L1:=zh hlx.c1;have hHw:H≤wr.heap.size:=by have:=hfr.size;omega
  by_cases hlt:k<s.size
  ·have hc:=byte_at s k hlt;have hlt':decide ((k:Int)<(s.size:Int))=true:=by simp;omega
   by_cases h34:s[k]'hlt=34
   ·have t1:(((s[k]'hlt).toNat:Int)==34)=true:=by rw[h34];rfl
    rw[h34]at hc;have HQ:=hmk.shut hc;clear hmk hc h34;by_cases h200:200<o.length
    ·rw[if_pos h200]at HQ;have HR:=zh HQ;clear HQ;have t2:decide ((200:Int)<(o.length:Int))=true:=by simp;omega
     have HLn:=zh (fun w (h:LBl H H o w)=>h.len);generalize o.length=ol at *;go_wp2_with fail
     go_quiet (fail)
     replace hlx:=hlx.drewN nq;replace htk:=htk.drewN nq;replace hfr:=hfr.drewN nq;replace hbd:=hbd.drewN nq;have hSW2:(wr.drewN nq).heap.size=wr.heap.size:=rfl;rw[←hSW2]at hHw;clear hSW2 l0 l1 m1;generalize wr.drewN nq=W2 at *;have l0:=hlx.c0;have l1:=hlx.c1;have m1:=hlx.f1;go_wp2_with fail
     go_quiet (fail)
     replace hlx:=hlx.drewN nq;replace htk:=htk.drewN nq;replace hfr:=hfr.drewN nq;replace hbd:=hbd.drewN nq;have hSW3:(W2.drewN nq).heap.size=W2.heap.size:=rfl;rw[←hSW3]at hHw;clear hSW3 l0 l1 m1;generalize W2.drewN nq=W3 at *;have l0:=hlx.c0;have l1:=hlx.c1;have m1:=hlx.f1;go_wp2_with fail
     refine(HLn.out _ hbd).mono ?_;rintro e w2 ⟨rfl,rfl⟩;go_wp2_with fail
     go_ret;exact⟨ret_val (by rw[HR.out];rfl),hfr,⟨_,k,rfl,htk,hlx,hk⟩,fun h=>by rw[HR.out]at h;cases h⟩
    ·rw[if_neg h200]at HQ;have HR:=zh HQ;clear HQ;have t2:decide ((200:Int)<(o.length:Int))=false:=by simp;omega
     have HLn:=zh (fun w (h:LBl H H o w)=>h.len);generalize o.length=ol at *;go_wp2_with fail
     go_quiet (fail)
     replace hlx:=hlx.drewN nq;replace htk:=htk.drewN nq;replace hfr:=hfr.drewN nq;replace hbd:=hbd.drewN nq;have hSW2:(wr.drewN nq).heap.size=wr.heap.size:=rfl;rw[←hSW2]at hHw;clear hSW2 l0 l1 m1;generalize wr.drewN nq=W2 at *;have l0:=hlx.c0;have l1:=hlx.c1;have m1:=hlx.f1;go_wp2_with fail
     go_quiet (fail)
     replace hlx:=hlx.drewN nq;replace htk:=htk.drewN nq;replace hfr:=hfr.drewN nq;replace hbd:=hbd.drewN nq;have hSW3:(W2.drewN nq).heap.size=W2.heap.size:=rfl;rw[←hSW3]at hHw;clear hSW3 l0 l1 m1;generalize W2.drewN nq=W3 at *;have l0:=hlx.c0;have l1:=hlx.c1;have m1:=hlx.f1;go_wp2_with fail
     refine(HLn.out _ hbd).mono ?_;rintro e w2 ⟨rfl,rfl⟩;go_wp2_with fail
     have hSW4:(W3.setCell ⟨b,1,none⟩ (.int .i64 ((k:Int)+1))).heap.size=W3.heap.size:=by simp[World.setCell]
     replace hbd:=hbd.put ⟨b,1,none⟩ (.int .i64 ((k:Int)+1)) hlx (by decide) (Ne.symm hbne);replace hlx:LexAt b s (k+1) (W3.setCell ⟨b,1,none⟩ (.int .i64 ((k:Int)+1))):=hlx.put (k+1);replace htk:=htk.other ⟨b,1,none⟩ (.int .i64 ((k:Int)+1)) (Ne.symm hbt);replace hfr:=hfr.setCell (l:=[b,t]) ⟨b,1,none⟩ (by simp) (.int .i64 ((k:Int)+1));rw[←hSW4]at hHw;clear hSW4 l0 l1 m1;generalize W3.setCell ⟨b,1,none⟩ (.int .i64 ((k:Int)+1))=W4 at *;have HTx:=zh (fun w (h:LBl H H o w) (h2:H≤w.heap.size)=>h.text h2);refine(HTx.out _ hbd hHw).mono ?_;rintro e w5 ⟨rfl,hbd5,hb5⟩;have hlx5:LexAt b s (k+1) w5:=hlx.below hb5 hblt;have htk5:=htk.below hb5 htlt;have hfr5:Fr [b,t] w w5:=hfr.lower (by rw[hgh];exact hb5);have z0:w5.cell? ⟨t,0,none⟩=some (.int .i64 1):=htk5.cell 0;have z5:w5.cell? ⟨t,5,none⟩=some (.string ⟨#[]⟩):=htk5.cell 5;have f0:=htk5.free 0;have f5:=htk5.free 5;go_wp2_with fail
     have F1:TokAt t ⟨4,a,0,0,0,o⟩ ((w5.setCell ⟨t,0,none⟩ (.int .i64 4)).setCell ⟨t,5,none⟩ (.string ⟨o.toArray⟩)):=(htk5.set (k':=⟨4,a,0,0,0,[]⟩) 0 _ rfl).set 5 _ rfl;have F2:=(hlx5.other ⟨t,0,none⟩ (.int .i64 4) hbt).other ⟨t,5,none⟩ (.string ⟨o.toArray⟩) hbt;have F3:=(hfr5.setCell (l:=[b,t]) ⟨t,0,none⟩ (by simp) (.int .i64 4)).setCell (l:=[b,t]) ⟨t,5,none⟩ (by simp) (.string ⟨o.toArray⟩);have hk1:k+1≤s.size:=by omega
     go_ret;exact⟨ret_val (by rw[HR.out];rfl),F3,⟨_,k+1,rfl,F1,F2,hk1⟩,fun _=>by rw[HR.out];exact⟨F1,F2,hk1,rfl⟩⟩
   ·have t1:(((s[k]'hlt).toNat:Int)==34)=false:=by
     rw[beq_eq_false_iff_ne];intro e;exact h34 (UInt8.toNat_inj.1 (by show _=34;omega))
    by_cases h92:s[k]'hlt=92
    ·have t2:(((s[k]'hlt).toNat:Int)==92)=true:=by rw[h92];rfl
     rw[h92]at hc;by_cases hj:k+1=s.size
     ·have HR:=zh (hmk.torn1 hc (by rw[HL.out];omega));have t3:(((k+1:Nat):Int)==(s.size:Int))=true:=by rw[hj];exact beq_self_eq_true _
      clear hmk hc h34 h92;go_wp2_with fail
      go_quiet (fail)
      replace hlx:=hlx.drewN nq;replace htk:=htk.drewN nq;replace hfr:=hfr.drewN nq;replace hbd:=hbd.drewN nq;have hSW2:(wr.drewN nq).heap.size=wr.heap.size:=rfl;rw[←hSW2]at hHw;clear hSW2 l0 l1 m1;generalize wr.drewN nq=W2 at *;have l0:=hlx.c0;have l1:=hlx.c1;have m1:=hlx.f1;go_wp2_with fail
      go_quiet (fail)
      replace hlx:=hlx.drewN nq;replace htk:=htk.drewN nq;replace hfr:=hfr.drewN nq;replace hbd:=hbd.drewN nq;have hSW3:(W2.drewN nq).heap.size=W2.heap.size:=rfl;rw[←hSW3]at hHw;clear hSW3 l0 l1 m1;generalize W2.drewN nq=W3 at *;have l0:=hlx.c0;have l1:=hlx.c1;have m1:=hlx.f1;go_wp2_with fail
      have hSW4:(W3.setCell ⟨b,1,none⟩ (.int .i64 ((k:Int)+1))).heap.size=W3.heap.size:=by simp[World.setCell]
      replace hbd:=hbd.put ⟨b,1,none⟩ (.int .i64 ((k:Int)+1)) hlx (by decide) (Ne.symm hbne);replace hlx:LexAt b s (k+1) (W3.setCell ⟨b,1,none⟩ (.int .i64 ((k:Int)+1))):=hlx.put (k+1);replace htk:=htk.other ⟨b,1,none⟩ (.int .i64 ((k:Int)+1)) (Ne.symm hbt);replace hfr:=hfr.setCell (l:=[b,t]) ⟨b,1,none⟩ (by simp) (.int .i64 ((k:Int)+1));rw[←hSW4]at hHw;clear hSW4 l0 l1 m1;generalize W3.setCell ⟨b,1,none⟩ (.int .i64 ((k:Int)+1))=W4 at *;have hjs:k+1≤s.size:=by omega
      rw[show((k:Int)+1)=((k+1:Nat):Int) by omega]at *;generalize k+1=j at *;have l0:=hlx.c0;have l1:=hlx.c1;have m1:=hlx.f1;go_wp2_with fail
      go_quiet (fail)
      replace hlx:=hlx.drewN nq;replace htk:=htk.drewN nq;replace hfr:=hfr.drewN nq;replace hbd:=hbd.drewN nq;have hSW5:(W4.drewN nq).heap.size=W4.heap.size:=rfl;rw[←hSW5]at hHw;clear hSW5 l0 l1 m1;generalize W4.drewN nq=W5 at *;have l0:=hlx.c0;have l1:=hlx.c1;have m1:=hlx.f1;go_wp2_with fail
      go_ret;exact⟨ret_val (by rw[HR.out];rfl),hfr,⟨_,j,rfl,htk,hlx,hjs⟩,fun h=>by rw[HR.out]at h;cases h⟩
     ·have hj1:k+1<s.size:=by omega
      have hd:=byte_at s (k+1) hj1;have t3:(((k+1:Nat):Int)==(s.size:Int))=false:=by rw[beq_eq_false_iff_ne];omega
      by_cases hd34:s[k+1]'hj1=34
      ·have HM2:=hmk.esc hc hd (.inl hd34);rw[show k+2=k+1+1 by omega]at HM2;have u34:(((s[k+1]'hj1).toNat:Int)==34)=true:=by rw[hd34];rfl
       have v34:(((s[k+1]'hj1).toNat:Int) != 34)=false:=by rw[bne,u34];rfl
       have u92:(((s[k+1]'hj1).toNat:Int)==92)=false:=by rw[beq_eq_false_iff_ne];intro e;rw[hd34]at e;exact absurd e (by decide) --(UInt8.toNat_inj.1 (by show _=92;omega))
       have v92:(((s[k+1]'hj1).toNat:Int) != 92)=true:=by rw[bne,u92];rfl
       clear hmk hc h34 h92 hd hd34;go_wp2_with fail
       go_quiet (fail)
       replace hlx:=hlx.drewN nq;replace htk:=htk.drewN nq;replace hfr:=hfr.drewN nq;replace hbd:=hbd.drewN nq;have hSW2:(wr.drewN nq).heap.size=wr.heap.size:=rfl;rw[←hSW2]at hHw;clear hSW2 l0 l1 m1;generalize wr.drewN nq=W2 at *;have l0:=hlx.c0;have l1:=hlx.c1;have m1:=hlx.f1;go_wp2_with fail
       go_quiet (fail)
       replace hlx:=hlx.drewN nq;replace htk:=htk.drewN nq;replace hfr:=hfr.drewN nq;replace hbd:=hbd.drewN nq;have hSW3:(W2.drewN nq).heap.size=W2.heap.size:=rfl;rw[←hSW3]at hHw;clear hSW3 l0 l1 m1;generalize W2.drewN nq=W3 at *;have l0:=hlx.c0;have l1:=hlx.c1;have m1:=hlx.f1;go_wp2_with fail
       have hSW4:(W3.setCell ⟨b,1,none⟩ (.int .i64 ((k:Int)+1))).heap.size=W3.heap.size:=by simp[World.setCell]
       replace hbd:=hbd.put ⟨b,1,none⟩ (.int .i64 ((k:Int)+1)) hlx (by decide) (Ne.symm hbne);replace hlx:LexAt b s (k+1) (W3.setCell ⟨b,1,none⟩ (.int .i64 ((k:Int)+1))):=hlx.put (k+1);replace htk:=htk.other ⟨b,1,none⟩ (.int .i64 ((k:Int)+1)) (Ne.symm hbt);replace hfr:=hfr.setCell (l:=[b,t]) ⟨b,1,none⟩ (by simp) (.int .i64 ((k:Int)+1));rw[←hSW4]at hHw;clear hSW4 l0 l1 m1;generalize W3.setCell ⟨b,1,none⟩ (.int .i64 ((k:Int)+1))=W4 at *;have hjs:k+1≤s.size:=by omega
       rw[show((k:Int)+1)=((k+1:Nat):Int) by omega]at *;generalize hkj:k+1=j at *;have l0:=hlx.c0;have l1:=hlx.c1;have m1:=hlx.f1;go_wp2_with fail
       go_quiet (fail)
       replace hlx:=hlx.drewN nq;replace htk:=htk.drewN nq;replace hfr:=hfr.drewN nq;replace hbd:=hbd.drewN nq;have hSW5:(W4.drewN nq).heap.size=W4.heap.size:=rfl;rw[←hSW5]at hHw;clear hSW5 l0 l1 m1;generalize W4.drewN nq=W5 at *;have l0:=hlx.c0;have l1:=hlx.c1;have m1:=hlx.f1;go_wp2_with fail
       go_quiet (fail)
       replace hlx:=hlx.drewN nq;replace htk:=htk.drewN nq;replace hfr:=hfr.drewN nq;replace hbd:=hbd.drewN nq;have hSW6:(W5.drewN nq).heap.size=W5.heap.size:=rfl;rw[←hSW6]at hHw;clear hSW6 l0 l1 m1;generalize W5.drewN nq=W6 at *;have l0:=hlx.c0;have l1:=hlx.c1;have m1:=hlx.f1;go_wp2_with fail
       have hlo:=HM2.2.2;simp only[List.length_append,List.length_cons,List.length_nil]at hlo;have HW:=zh (fun w (h:LBl H H o w) (h2:H≤w.heap.size)=>h.write (by omega) h2 (s[j]'hj1));have HM3:=zh HM2;clear hlo HM2;go_region_held3 (fun w'=>w'.cell? ⟨b,0,none⟩=some (.string s)∧w'.cell? ⟨b,1,none⟩=some (.int .i64 (j:Int))) (first|exact⟨l0,l1⟩|exact⟨hlx5.c0,hlx5.c1⟩)
        ((go_at_call 48;refine(HW.out _ hbd.drew (by exact hHw)).mono ?_;rintro e w5 ⟨rfl,hbd5,hb5⟩;have hlx5:LexAt b s j w5:=LexAt.below hlx.drew hb5 hblt;have htk5:TokAt t ⟨1,a,0,0,0,[]⟩ w5:=TokAt.below htk.drew hb5 htlt;have hfr5:Fr [b,t] w w5:=Fr.lower hfr.drew (by rw[hgh];exact hb5)))
       have l5:=hlx5.c0;have l6:=hlx5.c1;have l7:=hlx5.f1;have K1:LexAt b s (j+1) (w5.setCell ⟨b,1,none⟩ (.int .i64 ((j:Int)+1))):=hlx5.put (j+1);have K2:=htk5.other ⟨b,1,none⟩ (.int .i64 ((j:Int)+1)) (Ne.symm hbt);have K3:=hfr5.setCell (l:=[b,t]) ⟨b,1,none⟩ (by simp) (.int .i64 ((j:Int)+1));have K4:=hbd5.put ⟨b,1,none⟩ (.int .i64 ((j:Int)+1)) hlx5 (by decide) (Ne.symm hbne);have e1:(w5.setCell ⟨b,1,none⟩ (.int .i64 ((j:Int)+1))).cell? ⟨b,1,none⟩=some (.int .i64 (((j+1:Nat)):Int)):=K1.c1;have E1:=zh e1;clear e1;go_wp2_with fail
       go_roundw
       case rel=>exact⟨j+1,_,by omega,K1,K2,K3,K4,HM3.out⟩
       case measure =>
        rw[E1.out,L1.out];show s.size - (((j+1:Nat):Int)).toNat<s.size - (k:Int).toNat;omega
      ·by_cases hd92:s[k+1]'hj1=92
       ·have HM2:=hmk.esc hc hd (.inr hd92);rw[show k+2=k+1+1 by omega]at HM2;have u34:(((s[k+1]'hj1).toNat:Int)==34)=false:=by rw[beq_eq_false_iff_ne];intro e;exact hd34 (UInt8.toNat_inj.1 (by show _=34;omega))
        have v34:(((s[k+1]'hj1).toNat:Int) != 34)=true:=by rw[bne,u34];rfl
        have u92:(((s[k+1]'hj1).toNat:Int)==92)=true:=by rw[hd92];rfl
        have v92:(((s[k+1]'hj1).toNat:Int) != 92)=false:=by rw[bne,u92];rfl
        clear hmk hc h34 h92 hd hd34 hd92;go_wp2_with fail
        go_quiet (fail)
        replace hlx:=hlx.drewN nq;replace htk:=htk.drewN nq;replace hfr:=hfr.drewN nq;replace hbd:=hbd.drewN nq;have hSW2:(wr.drewN nq).heap.size=wr.heap.size:=rfl;rw[←hSW2]at hHw;clear hSW2 l0 l1 m1;generalize wr.drewN nq=W2 at *;have l0:=hlx.c0;have l1:=hlx.c1;have m1:=hlx.f1;go_wp2_with fail
        go_quiet (fail)
        replace hlx:=hlx.drewN nq;replace htk:=htk.drewN nq;replace hfr:=hfr.drewN nq;replace hbd:=hbd.drewN nq;have hSW3:(W2.drewN nq).heap.size=W2.heap.size:=rfl;rw[←hSW3]at hHw;clear hSW3 l0 l1 m1;generalize W2.drewN nq=W3 at *;have l0:=hlx.c0;have l1:=hlx.c1;have m1:=hlx.f1;go_wp2_with fail
        have hSW4:(W3.setCell ⟨b,1,none⟩ (.int .i64 ((k:Int)+1))).heap.size=W3.heap.size:=by simp[World.setCell]
        replace hbd:=hbd.put ⟨b,1,none⟩ (.int .i64 ((k:Int)+1)) hlx (by decide) (Ne.symm hbne);replace hlx:LexAt b s (k+1) (W3.setCell ⟨b,1,none⟩ (.int .i64 ((k:Int)+1))):=hlx.put (k+1);replace htk:=htk.other ⟨b,1,none⟩ (.int .i64 ((k:Int)+1)) (Ne.symm hbt);replace hfr:=hfr.setCell (l:=[b,t]) ⟨b,1,none⟩ (by simp) (.int .i64 ((k:Int)+1));rw[←hSW4]at hHw;clear hSW4 l0 l1 m1;generalize W3.setCell ⟨b,1,none⟩ (.int .i64 ((k:Int)+1))=W4 at *;have hjs:k+1≤s.size:=by omega
        rw[show((k:Int)+1)=((k+1:Nat):Int) by omega]at *;generalize hkj:k+1=j at *;have l0:=hlx.c0;have l1:=hlx.c1;have m1:=hlx.f1;go_wp2_with fail
        go_quiet (fail)
        replace hlx:=hlx.drewN nq;replace htk:=htk.drewN nq;replace hfr:=hfr.drewN nq;replace hbd:=hbd.drewN nq;have hSW5:(W4.drewN nq).heap.size=W4.heap.size:=rfl;rw[←hSW5]at hHw;clear hSW5 l0 l1 m1;generalize W4.drewN nq=W5 at *;have l0:=hlx.c0;have l1:=hlx.c1;have m1:=hlx.f1;go_wp2_with fail
        go_quiet (fail)
        replace hlx:=hlx.drewN nq;replace htk:=htk.drewN nq;replace hfr:=hfr.drewN nq;replace hbd:=hbd.drewN nq;have hSW6:(W5.drewN nq).heap.size=W5.heap.size:=rfl;rw[←hSW6]at hHw;clear hSW6 l0 l1 m1;generalize W5.drewN nq=W6 at *;have l0:=hlx.c0;have l1:=hlx.c1;have m1:=hlx.f1;go_wp2_with fail
        have hlo:=HM2.2.2;simp only[List.length_append,List.length_cons,List.length_nil]at hlo;have HW:=zh (fun w (h:LBl H H o w) (h2:H≤w.heap.size)=>h.write (by omega) h2 (s[j]'hj1));have HM3:=zh HM2;clear hlo HM2;go_region_held3 (fun w'=>w'.cell? ⟨b,0,none⟩=some (.string s)∧w'.cell? ⟨b,1,none⟩=some (.int .i64 (j:Int))) (first|exact⟨l0,l1⟩|exact⟨hlx5.c0,hlx5.c1⟩)
         ((go_at_call 48;refine(HW.out _ hbd.drew (by exact hHw)).mono ?_;rintro e w5 ⟨rfl,hbd5,hb5⟩;have hlx5:LexAt b s j w5:=LexAt.below hlx.drew hb5 hblt;have htk5:TokAt t ⟨1,a,0,0,0,[]⟩ w5:=TokAt.below htk.drew hb5 htlt;have hfr5:Fr [b,t] w w5:=Fr.lower hfr.drew (by rw[hgh];exact hb5)))
        have l5:=hlx5.c0;have l6:=hlx5.c1;have l7:=hlx5.f1;have K1:LexAt b s (j+1) (w5.setCell ⟨b,1,none⟩ (.int .i64 ((j:Int)+1))):=hlx5.put (j+1);have K2:=htk5.other ⟨b,1,none⟩ (.int .i64 ((j:Int)+1)) (Ne.symm hbt);have K3:=hfr5.setCell (l:=[b,t]) ⟨b,1,none⟩ (by simp) (.int .i64 ((j:Int)+1));have K4:=hbd5.put ⟨b,1,none⟩ (.int .i64 ((j:Int)+1)) hlx5 (by decide) (Ne.symm hbne);have e1:(w5.setCell ⟨b,1,none⟩ (.int .i64 ((j:Int)+1))).cell? ⟨b,1,none⟩=some (.int .i64 (((j+1:Nat)):Int)):=K1.c1;have E1:=zh e1;clear e1;go_wp2_with fail
        go_roundw
        case rel=>exact⟨j+1,_,by omega,K1,K2,K3,K4,HM3.out⟩
        case measure =>
         rw[E1.out,L1.out];show s.size - (((j+1:Nat):Int)).toNat<s.size - (k:Int).toNat;omega
       ·have HR:=zh (hmk.form hc hd hd34 hd92);have u34:(((s[k+1]'hj1).toNat:Int)==34)=false:=by rw[beq_eq_false_iff_ne];intro e;exact hd34 (UInt8.toNat_inj.1 (by show _=34;omega))
        have v34:(((s[k+1]'hj1).toNat:Int) != 34)=true:=by rw[bne,u34];rfl
        have u92:(((s[k+1]'hj1).toNat:Int)==92)=false:=by rw[beq_eq_false_iff_ne];intro e;exact hd92 (UInt8.toNat_inj.1 (by show _=92;omega))
        have v92:(((s[k+1]'hj1).toNat:Int) != 92)=true:=by rw[bne,u92];rfl
        clear hmk hc h34 h92 hd hd34 hd92;go_wp2_with fail
        go_quiet (fail)
        replace hlx:=hlx.drewN nq;replace htk:=htk.drewN nq;replace hfr:=hfr.drewN nq;replace hbd:=hbd.drewN nq;have hSW2:(wr.drewN nq).heap.size=wr.heap.size:=rfl;rw[←hSW2]at hHw;clear hSW2 l0 l1 m1;generalize wr.drewN nq=W2 at *;have l0:=hlx.c0;have l1:=hlx.c1;have m1:=hlx.f1;go_wp2_with fail
        go_quiet (fail)
        replace hlx:=hlx.drewN nq;replace htk:=htk.drewN nq;replace hfr:=hfr.drewN nq;replace hbd:=hbd.drewN nq;have hSW3:(W2.drewN nq).heap.size=W2.heap.size:=rfl;rw[←hSW3]at hHw;clear hSW3 l0 l1 m1;generalize W2.drewN nq=W3 at *;have l0:=hlx.c0;have l1:=hlx.c1;have m1:=hlx.f1;go_wp2_with fail
        have hSW4:(W3.setCell ⟨b,1,none⟩ (.int .i64 ((k:Int)+1))).heap.size=W3.heap.size:=by simp[World.setCell]
        replace hbd:=hbd.put ⟨b,1,none⟩ (.int .i64 ((k:Int)+1)) hlx (by decide) (Ne.symm hbne);replace hlx:LexAt b s (k+1) (W3.setCell ⟨b,1,none⟩ (.int .i64 ((k:Int)+1))):=hlx.put (k+1);replace htk:=htk.other ⟨b,1,none⟩ (.int .i64 ((k:Int)+1)) (Ne.symm hbt);replace hfr:=hfr.setCell (l:=[b,t]) ⟨b,1,none⟩ (by simp) (.int .i64 ((k:Int)+1));rw[←hSW4]at hHw;clear hSW4 l0 l1 m1;generalize W3.setCell ⟨b,1,none⟩ (.int .i64 ((k:Int)+1))=W4 at *;have hjs:k+1≤s.size:=by omega
        rw[show((k:Int)+1)=((k+1:Nat):Int) by omega]at *;generalize hkj:k+1=j at *;have l0:=hlx.c0;have l1:=hlx.c1;have m1:=hlx.f1;go_wp2_with fail
        go_quiet (fail)
        replace hlx:=hlx.drewN nq;replace htk:=htk.drewN nq;replace hfr:=hfr.drewN nq;replace hbd:=hbd.drewN nq;have hSW5:(W4.drewN nq).heap.size=W4.heap.size:=rfl;rw[←hSW5]at hHw;clear hSW5 l0 l1 m1;generalize W4.drewN nq=W5 at *;have l0:=hlx.c0;have l1:=hlx.c1;have m1:=hlx.f1;go_wp2_with fail
        go_quiet (fail)
        replace hlx:=hlx.drewN nq;replace htk:=htk.drewN nq;replace hfr:=hfr.drewN nq;replace hbd:=hbd.drewN nq;have hSW6:(W5.drewN nq).heap.size=W5.heap.size:=rfl;rw[←hSW6]at hHw;clear hSW6 l0 l1 m1;generalize W5.drewN nq=W6 at *;have l0:=hlx.c0;have l1:=hlx.c1;have m1:=hlx.f1;go_wp2_with fail
        go_ret;exact⟨ret_val (by rw[HR.out];rfl),hfr,⟨_,j,rfl,htk,hlx,hjs⟩,fun h=>by rw[HR.out]at h;cases h⟩
    ·have t2:(((s[k]'hlt).toNat:Int)==92)=false:=by
      rw[beq_eq_false_iff_ne];intro e;exact h92 (UInt8.toNat_inj.1 (by show _=92;omega))
     have HM2:=hmk.plain hc h34 h92;clear hmk hc h34 h92;go_wp2_with fail
     go_quiet (fail)
     replace hlx:=hlx.drewN nq;replace htk:=htk.drewN nq;replace hfr:=hfr.drewN nq;replace hbd:=hbd.drewN nq;have hSW2:(wr.drewN nq).heap.size=wr.heap.size:=rfl;rw[←hSW2]at hHw;clear hSW2 l0 l1 m1;generalize wr.drewN nq=W2 at *;have l0:=hlx.c0;have l1:=hlx.c1;have m1:=hlx.f1;go_wp2_with fail
     go_quiet (fail)
     replace hlx:=hlx.drewN nq;replace htk:=htk.drewN nq;replace hfr:=hfr.drewN nq;replace hbd:=hbd.drewN nq;have hSW3:(W2.drewN nq).heap.size=W2.heap.size:=rfl;rw[←hSW3]at hHw;clear hSW3 l0 l1 m1;generalize W2.drewN nq=W3 at *;have l0:=hlx.c0;have l1:=hlx.c1;have m1:=hlx.f1;go_wp2_with fail
     have hlo:=HM2.2.2;simp only[List.length_append,List.length_cons,List.length_nil]at hlo;have HW:=zh (fun w (h:LBl H H o w) (h2:H≤w.heap.size)=>h.write (by omega) h2 (s[k]'hlt));have HM3:=zh HM2;clear hlo HM2;go_region_held3 (fun w'=>w'.cell? ⟨b,0,none⟩=some (.string s)∧w'.cell? ⟨b,1,none⟩=some (.int .i64 (k:Int))) (first|exact⟨l0,l1⟩|exact⟨hlx5.c0,hlx5.c1⟩)
      ((go_at_call 48;refine(HW.out _ hbd.drew (by exact hHw)).mono ?_;rintro e w5 ⟨rfl,hbd5,hb5⟩;have hlx5:LexAt b s k w5:=LexAt.below hlx.drew hb5 hblt;have htk5:TokAt t ⟨1,a,0,0,0,[]⟩ w5:=TokAt.below htk.drew hb5 htlt;have hfr5:Fr [b,t] w w5:=Fr.lower hfr.drew (by rw[hgh];exact hb5)))
     have l5:=hlx5.c0;have l6:=hlx5.c1;have l7:=hlx5.f1;have K1:LexAt b s (k+1) (w5.setCell ⟨b,1,none⟩ (.int .i64 ((k:Int)+1))):=hlx5.put (k+1);have K2:=htk5.other ⟨b,1,none⟩ (.int .i64 ((k:Int)+1)) (Ne.symm hbt);have K3:=hfr5.setCell (l:=[b,t]) ⟨b,1,none⟩ (by simp) (.int .i64 ((k:Int)+1));have K4:=hbd5.put ⟨b,1,none⟩ (.int .i64 ((k:Int)+1)) hlx5 (by decide) (Ne.symm hbne);have e1:(w5.setCell ⟨b,1,none⟩ (.int .i64 ((k:Int)+1))).cell? ⟨b,1,none⟩=some (.int .i64 (((k+1:Nat)):Int)):=K1.c1;have E1:=zh e1;clear e1;go_wp2_with fail
     go_roundw
     case rel=>exact⟨k+1,_,by omega,K1,K2,K3,K4,HM3.out⟩
     case measure =>
      rw[E1.out,L1.out];show s.size - (((k+1:Nat):Int)).toNat<s.size - (k:Int).toNat;omega
  ·have ht':decide ((k:Int)<(s.size:Int))=false:=by simp;omega
   have HR:=zh (hmk.torn (by rw[HL.out];omega));clear hmk;go_wp2_with fail
   go_quiet (fail)
   go_wp2
   go_ret;exact⟨ret_val (by rw[HR.out];rfl),hfr.drewN _,⟨_,k,rfl,htk.drewN _,hlx.drewN _,hk⟩,fun h=>by rw[HR.out]at h;cases h⟩
end
end Go.Proofs.YtaaaaggmhjhkkaaGreatDoor
