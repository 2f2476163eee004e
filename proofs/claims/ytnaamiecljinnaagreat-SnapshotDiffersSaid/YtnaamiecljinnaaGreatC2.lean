/-
  The walks of the codec's must and of its reader's byte.
-/
import Derived.Test.YtnaamiecljinnaaGreatFo
import Derived.Test.YtnaamiecljinnaaGreatS4
import Derived.Test.YtnaamiecljinnaaGreatQ3
import Derived.Deep.QuietTactic
import Derived.BigQuiet
namespace Go.Proofs.YtnaamiecljinnaaGreat
open Go.RowKit

set_option maxRecDepth 100000 in
set_option maxHeartbeats 1000000 in
theorem cmust_yes (x : Int) (w : World) : Calls Tryz.prog 118 #[.bool true, .int .i64 x] w fun e w' => e = .returned (.tuple #[]) ∧ w = w' := by
  go_enter Tryz.func118, Tryz.ntmps118
  go_wp2_with fail
  go_end0
  exact ⟨rfl, rfl⟩
set_option maxRecDepth 100000 in
set_option maxHeartbeats 1000000 in
theorem cmust_no (x : Int) (w : World) : Calls Tryz.prog 118 #[.bool false, .int .i64 x] w fun e w' => e = gave x ∧ w = w' := by
  go_enter Tryz.func118, Tryz.ntmps118
  go_wp2_with fail
  exact ⟨rfl, rfl, rfl⟩

/-- the codec's reader: its text, its place, how many parts were begun -/
def RdB (b : Nat) (s : ByteArray) (k q : Nat) (w : World) : Prop := w.heap[b]? = some (.cells #[.string s, .int .i64 k, .int .i64 q] 247 (0, 0))
theorem RdB.c0 {b : Nat} {s : ByteArray} {k q : Nat} {w : World} (h : RdB b s k q w) : w.cell? ⟨b, 0, none⟩ = some (.string s) := by rw [Lib.cell_of_heap h]; rfl
theorem RdB.c1 {b : Nat} {s : ByteArray} {k q : Nat} {w : World} (h : RdB b s k q w) : w.cell? ⟨b, 1, none⟩ = some (.int .i64 k) := by rw [Lib.cell_of_heap h]; rfl
theorem RdB.c2 {b : Nat} {s : ByteArray} {k q : Nat} {w : World} (h : RdB b s k q w) : w.cell? ⟨b, 2, none⟩ = some (.int .i64 q) := by rw [Lib.cell_of_heap h]; rfl
theorem RdB.fz {b : Nat} {s : ByteArray} {k q : Nat} {w : World} (h : RdB b s k q w) (i : Nat) : w.frozen? ⟨b, i, none⟩ = false := Lib.frozen_of_heap h i
theorem RdB.put1 {b : Nat} {s : ByteArray} {k q : Nat} {w : World} (h : RdB b s k q w) (c : Nat) : RdB b s c q (w.setCell ⟨b, 1, none⟩ (.int .i64 c)) := heap_setN h 1 _
theorem RdB.put2 {b : Nat} {s : ByteArray} {k q : Nat} {w : World} (h : RdB b s k q w) (c : Nat) : RdB b s k c (w.setCell ⟨b, 2, none⟩ (.int .i64 c)) := heap_setN h 2 _
theorem RdB.drewN {b : Nat} {s : ByteArray} {k q : Nat} {w : World} (h : RdB b s k q w) (n : Nat) : RdB b s k q (w.drewN n) := h
theorem RdB.drew {b : Nat} {s : ByteArray} {k q : Nat} {w : World} (h : RdB b s k q w) : RdB b s k q w.drew := h
theorem RdB.lt {b : Nat} {s : ByteArray} {k q : Nat} {w : World} (h : RdB b s k q w) : b < w.heap.size := lt_of_block h

set_option maxRecDepth 100000 in
set_option maxHeartbeats 4000000 in
theorem cbyte_no (s : ByteArray) (b k q : Nat) (hk : s.size ≤ k) (w : World) (hb : RdB b s k q w) :
    Calls Tryz.prog 143 #[.pointer (some ⟨b, 0, none⟩)] w fun e w' => e = gave 14 ∧ Fr [b] w w' := by
  have c0 := hb.c0; have c1 := hb.c1
  have t1 : decide ((k : Int) < (s.size : Int)) = false := by simp; omega
  have t2 : decide (k < s.size) = false := by simp; omega
  have HM := Lib.hid (cmust_no 14)
  clear hk
  go_enter Tryz.func143, Tryz.ntmps143
  go_wp2_with fail
  go_region_with ((go_at_call 118; (with_reducible refine (HM.out _).mono ?_); rintro e w2 ⟨rfl, rfl⟩; refine shut_way (w := w) ⟨rfl, rfl, (Fr.refl [b] w).drew⟩ ?_))
  all_goals trivial
set_option maxRecDepth 100000 in
set_option maxHeartbeats 4000000 in
theorem cbyte_yes (s : ByteArray) (hs : s.size ≤ 100000000) (b k q : Nat) (hk : k < s.size) (w : World) (hb : RdB b s k q w) :
    Calls Tryz.prog 143 #[.pointer (some ⟨b, 0, none⟩)] w fun e w' => e = .returned (.int .u8 (s[k]'hk).toNat) ∧ RdB b s (k + 1) q w' ∧ Fr [b] w w' := by
  have c0 := hb.c0; have c1 := hb.c1; have f1 := hb.fz 1
  have t1 : decide ((k : Int) < (s.size : Int)) = true := by simp; omega
  have HM := Lib.hid (cmust_yes 14)
  go_enter Tryz.func143, Tryz.ntmps143
  go_wp2_with fail
  go_quiet (refine Calls.quiet_of_same ((HM.out _).mono fun _ _ h => ⟨h.1, h.2.symm⟩))
  go_wp2_with fail
  have A1 : RdB b s (k + 1) q ((w.drewN nq).setCell ⟨b, 1, none⟩ (.int .i64 ((k : Int) + 1))) := (hb.drewN nq).put1 (k + 1)
  have A2 := ((Fr.refl [b] w).drewN nq).setCell ⟨b, 1, none⟩ (by simp) (.int .i64 ((k : Int) + 1))
  have w1 : IntKind.i64.wrap ((k : Int) + 1 - 1) = (k : Int) := by rw [IntKind.wrap_i64]; omega
  have w2 : IntKind.i64.wrap (k : Int) = (k : Int) := by rw [IntKind.wrap_i64]; omega
  have b1 : (0 : Int) ≤ (k : Int) := by omega
  have b2 : (k : Int) < (s.size : Int) := by omega
  clear c0 c1 f1 t1
  generalize (w.drewN nq).setCell ⟨b, 1, none⟩ (.int .i64 ((k : Int) + 1)) = W2 at *
  have c0 := A1.c0; have c1 := A1.c1
  generalize hk1 : k + 1 = k1 at A1 c1
  have e1 : (k1 : Int) = (k : Int) + 1 := by omega
  rw [e1] at c1
  subst hk1
  clear e1
  go_quiet (fail)
  go_wp2_with fail
  go_ret
  exact ⟨rfl, A1.drewN _, A2.drewN _⟩
end Go.Proofs.YtnaamiecljinnaaGreat
