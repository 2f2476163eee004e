/-
  The walks of the float laws that go by the order and by sums.
-/
import Derived.Test.YtbcgecenfedjdaaDoorWa
namespace Go.Proofs.YtbcgecenfedjdaaDoor
open Go.RowKit

theorem quiet_below {P : Program} {f : FuncId} {args : Array Value} {w : World} {v : Value} (h : Calls P f args w fun e w' => e = .returned v ∧ w = w') : Calls P f args w fun e w' => e = .returned v ∧ Below w.heap.size w w' :=
  h.mono fun _ _ ⟨h1, h2⟩ => ⟨h1, by rw [← h2]; exact Below.refl _ _⟩

set_option maxRecDepth 100000 in
set_option maxHeartbeats 1000000 in
theorem lawFloatOrder (a : Nat) (ha : F64 a) (b : Nat) (hb : F64 b) (w : World) (hE : Env w) :
    Calls Tryd.prog 5 #[.float .f64 a, .float .f64 b] w fun e w' => e = .returned (.bool true) ∧ Below w.heap.size w w' := by
  have HA := Lib.hid (awake_any w hE)
  have H1 := Lib.hid (order_any a b ha hb)
  have H2 := Lib.hid (rorder_any a b ha hb)
  have H3 := Lib.hid (equal_any a b)
  have H4 := Lib.hid (requal_any a b ha hb)
  have H5 := Lib.hid (less_any a b)
  have H6 := Lib.hid (rless_any a b ha hb)
  have H7 := Lib.hid (canon_any a)
  have H8 := Lib.hid (rcanon_any a)
  have hf := bits_run
  generalize ordB a b = o at *
  generalize Fl.feq a b = q at *
  generalize Fl.flt a b = l at *
  generalize canon a = c at *
  go_enter Tryd.func5, Tryd.ntmps5
  go_wp2_with fail
  refine HA.out.mono ?_; rintro e w1 ⟨rfl, hw1⟩
  go_wp2_with (first
    | (go_at_call 18; refine (H1.out _).mono ?_; rintro e w' ⟨rfl, rfl⟩)
    | (go_at_call 19; refine (H2.out _).mono ?_; rintro e w' ⟨rfl, rfl⟩)
    | (go_at_call 20; refine (H3.out _).mono ?_; rintro e w' ⟨rfl, rfl⟩)
    | (go_at_call 21; refine (H4.out _).mono ?_; rintro e w' ⟨rfl, rfl⟩)
    | (go_at_call 22; refine (H5.out _).mono ?_; rintro e w' ⟨rfl, rfl⟩)
    | (go_at_call 23; refine (H6.out _).mono ?_; rintro e w' ⟨rfl, rfl⟩)
    | (go_at_call 24; refine (H7.out _).mono ?_; rintro e w' ⟨rfl, rfl⟩)
    | (go_at_call 16; refine (H8.out _).mono ?_; rintro e w' ⟨rfl, rfl⟩))
  go_ret
  exact ⟨ret_val rfl, hw1⟩
end Go.Proofs.YtbcgecenfedjdaaDoor
