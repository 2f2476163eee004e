/-
  W1, Sh in one text.
-/
import Derived.Deep.Cut
import Derived.Deep.RegionHeld3
import Derived.Lib.ConvBytes
import Derived.Lib.IndexMore
import Derived.Lib.ItoaNum
import Derived.Lib.MinMax
import Derived.Lib.ParseIntB
import Derived.StillTailTactics
import Derived.Test.YtaaaaggmhjhkkaaGreatDoorS00
import Derived.Test.YtaaaaggmhjhkkaaGreatDoorCl
set_option maxHeartbeats 400000
namespace Go.Proofs.YtaaaaggmhjhkkaaGreatDoor
section
open Go.RowKit
theorem rkey_any (b:Nat) (hb:F64 b) (w:World):Calls Tryz.prog 118 #[.float .f64 b] w fun e w'=>e=.returned (.int .i64 (keyB b))∧w=w':=by
 have hf:=bits_run;cases hn:Fl.isNaN b
 ·rcases ng_cases hb with ⟨h,he⟩|⟨h,he⟩
  ·have hc:keyB b = -1 - (Fl.rg b:Int):=by simp[keyB,hn,h]
   have HC:=zh hc;clear hc;have hd:=ng_bits hb;rw[h]at hd;have hl:=rg_lt b;have e1:IntKind.u64.wrap ((b:Int) - 9223372036854775808)=(Fl.rg b:Int):=by rw[IntWalk.u64_in _ (by omega)];omega
   have E1:=zh e1;clear e1;have e2:wrap64 (-1 - wrap64 (Fl.rg b:Int)) = -1 - (Fl.rg b:Int):=by rw[IntWalk.wrap64_in (Fl.rg b:Int) (by omega),IntWalk.wrap64_in _ (by omega)]
   have E2:=zh e2;clear e2;clear he hl;go_in;go_wp2_with (go_at_call 71;refine(rnan_any _ _).mono ?_;rintro e w' ⟨rfl,rfl⟩)
   go_ret;exact⟨ret_val (by rw[HC.out,←E2.out,←E1.out];rfl),rfl⟩
  ·have hc:keyB b=(Fl.rg b:Int):=by simp[keyB,hn,h]
   have HC:=zh hc;clear hc;have hd:=ng_bits hb;rw[h]at hd;have hl:=rg_lt b;have e2:wrap64 (b:Int)=(Fl.rg b:Int):=by rw[IntWalk.wrap64_in _ (by omega)];omega
   have E2:=zh e2;clear e2;clear he hl;go_in;go_wp2_with (go_at_call 71;refine(rnan_any _ _).mono ?_;rintro e w' ⟨rfl,rfl⟩)
   go_ret;exact⟨ret_val (by rw[HC.out,←E2.out];rfl),rfl⟩
 ·have hc:keyB b=9223372036854775807:=keyB_nan hn;have HC:=zh hc;clear hc;go_in;go_wp2_with (go_at_call 71;refine(rnan_any _ _).mono ?_;rintro e w' ⟨rfl,rfl⟩)
  go_ret;exact⟨ret_val (by rw[HC.out];rfl),rfl⟩
theorem rorder_any (a b:Nat) (ha:F64 a) (hb:F64 b) (w:World):Calls Tryz.prog 94 #[.float .f64 a,.float .f64 b] w fun e w'=>e=.returned (.int .i64 (ordB a b))∧w=w':=by
 by_cases h1:keyB a<keyB b
 ·have hc:ordB a b = -1:=by unfold ordB;rw[if_pos h1]
  have HC:=zh hc;clear hc;go_in;go_wp2_with fail
  refine(rkey_any _ ha _).mono ?_;rintro e w' ⟨rfl,rfl⟩;go_wp2_with fail
  refine(rkey_any _ hb _).mono ?_;rintro e w' ⟨rfl,rfl⟩;go_wp2_with fail
  go_ret;exact⟨ret_val (by rw[HC.out];rfl),rfl⟩
 ·by_cases h2:keyB b<keyB a
  ·have hc:ordB a b=1:=by unfold ordB;rw[if_neg h1,if_pos h2]
   have HC:=zh hc;clear hc;go_in;go_wp2_with fail
   refine(rkey_any _ ha _).mono ?_;rintro e w' ⟨rfl,rfl⟩;go_wp2_with fail
   refine(rkey_any _ hb _).mono ?_;rintro e w' ⟨rfl,rfl⟩;go_wp2_with fail
   go_ret;exact⟨ret_val (by rw[HC.out];rfl),rfl⟩
  ·have hc:ordB a b=0:=by unfold ordB;rw[if_neg h1,if_neg h2]
   have HC:=zh hc;clear hc;go_in;go_wp2_with fail
   refine(rkey_any _ ha _).mono ?_;rintro e w' ⟨rfl,rfl⟩;go_wp2_with fail
   refine(rkey_any _ hb _).mono ?_;rintro e w' ⟨rfl,rfl⟩;go_wp2_with fail
   go_ret;exact⟨ret_val (by rw[HC.out];rfl),rfl⟩
end
section
open Go.RowKit
/-- operations still to be run, not to be laid open -/
structure StillG (P:Program) (ops:Array Oper) (w:World) (Q:Act→Prop) (l:List Oper) (a:Act):Prop where
 out:wpStill P ops w Q l a
theorem StillG.nil {P:Program} {ops:Array Oper} {w:World} {Q:Act→Prop} {a:Act} (h:Q a):StillG P ops w Q [] a:=⟨wpStill_nil h⟩
theorem StillG.step {P:Program} {ops:Array Oper} {w:World} {Q:Act→Prop} {a:Act} {o:Oper} {rest:List Oper}
  (h:∀ K:Act→Prop,(∀ a,StillG P ops w Q rest a→K a)→if Region.wanted o (yielded ops a.tmps) then o.still P a w K else K (a.put o.dst undef)):StillG P ops w Q (o::rest) a :=
 ⟨wpStill_step fun K hK=>h K fun a ha=>hK a ha.out⟩
theorem wp_still_tailG {P:Program} {w:World} {id:Nat} {Q:Exit→Act→World→Prop} {a:Act} {l:List Oper} (n:Nat) (hm:P.follows .mixedOrders=true) (hB:Region.lexTailB .any l.toArray n=true)
  (h:StillG P l.toArray w.drew (fun a'=>wpList P l.toArray Q (l.drop n) a' w.drew) (l.take n) a):(Code.region id l.toArray true).wp P Q a w :=
 wp_region_still_tail n hm hB h.out
end
end Go.Proofs.YtaaaaggmhjhkkaaGreatDoor
