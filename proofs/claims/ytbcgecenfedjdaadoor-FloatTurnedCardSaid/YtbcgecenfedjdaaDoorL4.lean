/-
  The walk of the law FloatTurned.
-/
import Derived.Test.YtbcgecenfedjdaaDoorL1
import Derived.Test.YtbcgecenfedjdaaDoorFr
import Derived.Test.YtbcgecenfedjdaaDoorFh
namespace Go.Proofs.YtbcgecenfedjdaaDoor
open Go.RowKit

set_option maxRecDepth 100000 in
set_option maxHeartbeats 4000000 in
theorem lawFloatTurned (a : Nat) (ha : F64 a) (b : Nat) (hb : F64 b) (w : World) (hE : Env w) :
    Calls Tryd.prog 10 #[.float .f64 a, .float .f64 b] w fun e w' => e = .returned (.bool true) ∧ Below w.heap.size w w' := by
  have HA := Lib.hid (awake_any w hE)
  have h1 := fun w => below_of (mul_any a 4602678819172646912 w)
  rw [half_two] at h1
  have H1 := Lib.hid h1; clear h1
  have H2 := Lib.hid (fun w => below_of (div_any a 4611686018427387904 w))
  have H3 := Lib.hid (rnan_any a)
  have H4 := Lib.hid (rnan_any b)
  have H5 := Lib.hid (neg_any a)
  have H6 := Lib.hid (neg_any b)
  have H7 := Lib.hid (order_any (negB a) (negB b) (negB_F64 ha) (negB_F64 hb))
  have H8 := Lib.hid (order_any a b ha hb)
  have H9 := Lib.hid (less_any a b)
  have H10 := Lib.hid (less_any (negB b) (negB a))
  have hf := bits_run
  cases na : Fl.isNaN a
  · cases nb : Fl.isNaN b
    · rw [ord_neg ha hb na nb] at H7
      rw [flt_neg ha hb na nb] at H10
      rcases ord_vals a b with e1 | e1 | e1
      all_goals
        rw [e1] at H7 H8
        clear e1
        cases hl : Fl.flt a b
        all_goals
          rw [hl] at H9 H10
          go_enter Tryd.func10, Tryd.ntmps10
          go_wp2_with fail
          refine HA.out.mono ?_; rintro e w1 ⟨rfl, hw1⟩
          go_wp2_with fail
          refine (H1.out _).mono ?_; rintro e w2 ⟨rfl, hw2⟩
          go_wp2_with fail
          refine (H2.out _).mono ?_; rintro e w3 ⟨rfl, hw3⟩
          go_wp2_with fail
          refine (H3.out _).mono ?_; rintro e w' ⟨rfl, rfl⟩
          go_wp2_with fail
          refine (H4.out _).mono ?_; rintro e w' ⟨rfl, rfl⟩
          go_wp2_with fail
          refine (H5.out _).mono ?_; rintro e w' ⟨rfl, rfl⟩
          go_wp2_with fail
          refine (H6.out _).mono ?_; rintro e w' ⟨rfl, rfl⟩
          go_wp2_with fail
          refine (H7.out _).mono ?_; rintro e w' ⟨rfl, rfl⟩
          go_wp2_with fail
          refine (H8.out _).mono ?_; rintro e w' ⟨rfl, rfl⟩
          go_wp2_with fail
          refine (H9.out _).mono ?_; rintro e w' ⟨rfl, rfl⟩
          go_wp2_with fail
          refine (H6.out _).mono ?_; rintro e w' ⟨rfl, rfl⟩
          go_wp2_with fail
          refine (H5.out _).mono ?_; rintro e w' ⟨rfl, rfl⟩
          go_wp2_with fail
          refine (H10.out _).mono ?_; rintro e w' ⟨rfl, rfl⟩
          go_wp2_with fail
          go_ret
          exact ⟨ret_val rfl, below_tr (below_tr hw1 hw2) hw3⟩
    · go_enter Tryd.func10, Tryd.ntmps10
      go_wp2_with fail
      refine HA.out.mono ?_; rintro e w1 ⟨rfl, hw1⟩
      go_wp2_with fail
      refine (H1.out _).mono ?_; rintro e w2 ⟨rfl, hw2⟩
      go_wp2_with fail
      refine (H2.out _).mono ?_; rintro e w3 ⟨rfl, hw3⟩
      go_wp2_with fail
      refine (H3.out _).mono ?_; rintro e w' ⟨rfl, rfl⟩
      go_wp2_with fail
      refine (H4.out _).mono ?_; rintro e w' ⟨rfl, rfl⟩
      go_wp2_with fail
      go_ret
      exact ⟨ret_val rfl, below_tr (below_tr hw1 hw2) hw3⟩
  · go_enter Tryd.func10, Tryd.ntmps10
    go_wp2_with fail
    refine HA.out.mono ?_; rintro e w1 ⟨rfl, hw1⟩
    go_wp2_with fail
    refine (H1.out _).mono ?_; rintro e w2 ⟨rfl, hw2⟩
    go_wp2_with fail
    refine (H2.out _).mono ?_; rintro e w3 ⟨rfl, hw3⟩
    go_wp2_with fail
    refine (H3.out _).mono ?_; rintro e w' ⟨rfl, rfl⟩
    go_wp2_with fail
    go_ret
    exact ⟨ret_val rfl, below_tr (below_tr hw1 hw2) hw3⟩
end Go.Proofs.YtbcgecenfedjdaaDoor
