/-
  The walks of the laws FloatRow and FloatTurned.
-/
import Derived.Test.YtbcgecenfedjdaaDoorL1
import Derived.Test.YtbcgecenfedjdaaDoorFr
import Derived.Test.YtbcgecenfedjdaaDoorFh
namespace Go.Proofs.YtbcgecenfedjdaaDoor
open Go.RowKit

set_option maxRecDepth 100000 in
set_option maxHeartbeats 4000000 in
theorem lawFloatRow (a : Nat) (ha : F64 a) (b : Nat) (hb : F64 b) (c : Nat) (hc : F64 c) (w : World) (hE : Env w) :
    Calls Tryd.prog 7 #[.float .f64 a, .float .f64 b, .float .f64 c] w fun e w' => e = .returned (.bool true) ∧ Below w.heap.size w w' := by
  have HA := Lib.hid (awake_any w hE)
  have h1 := order_any a b ha hb
  have h2 := order_any b a hb ha
  rw [ord_anti] at h2
  have h3 := order_any b c hb hc
  have h4 := order_any a c ha hc
  have h5 := rsame_any a b
  rw [show decide (canon a = canon b) = decide (ordB a b = 0) from decide_eq_decide.2 (ord_zero ha hb).symm] at h5
  have h6 := less_any a b
  have hlt : Fl.flt a b = true → ordB a b = -1 := flt_ord
  have htr : ordB a b ≤ 0 → ordB b c ≤ 0 → ordB a c ≤ 0 := ord_trans
  rcases ord_vals a b with e1 | e1 | e1 <;> rcases ord_vals b c with e2 | e2 | e2 <;> rcases ord_vals a c with e3 | e3 | e3
  all_goals
    rw [e1] at h1 h2 h5 hlt htr
    rw [e2] at h3 htr
    rw [e3] at h4 htr
    first
      | (exfalso; have := htr (by omega) (by omega); omega)
      | (clear e1 e2 e3 htr
         have H1 := Lib.hid h1
         have H2 := Lib.hid h2
         have H3 := Lib.hid h3
         have H4 := Lib.hid h4
         have H5 := Lib.hid h5
         clear h1 h2 h3 h4 h5
         cases hl : Fl.flt a b
         all_goals
           rw [hl] at hlt h6
           first
             | (exfalso; have := hlt rfl; omega)
             | (have H6 := Lib.hid h6
                clear h6 hlt
                go_enter Tryd.func7, Tryd.ntmps7
                go_wp2_with fail
                refine HA.out.mono ?_; rintro e w1 ⟨rfl, hw1⟩
                go_wp2_with fail
                refine (H1.out _).mono ?_; rintro e w' ⟨rfl, rfl⟩
                go_wp2_with fail
                refine (H2.out _).mono ?_; rintro e w' ⟨rfl, rfl⟩
                go_wp2_with fail
                refine (H1.out _).mono ?_; rintro e w' ⟨rfl, rfl⟩
                go_wp2_with fail
                refine (H5.out _).mono ?_; rintro e w' ⟨rfl, rfl⟩
                go_wp2_with fail
                refine (H1.out _).mono ?_; rintro e w' ⟨rfl, rfl⟩
                go_wp2_with (first
                  | (go_at_call 22; refine (H6.out _).mono ?_; rintro e w' ⟨rfl, rfl⟩)
                  | (go_at_call 18; first | ((with_reducible refine (H1.out _).mono ?_); rintro e w' ⟨rfl, rfl⟩) | ((with_reducible refine (H3.out _).mono ?_); rintro e w' ⟨rfl, rfl⟩) | ((with_reducible refine (H4.out _).mono ?_); rintro e w' ⟨rfl, rfl⟩)))
                go_ret
                exact ⟨ret_val rfl, hw1⟩))
end Go.Proofs.YtbcgecenfedjdaaDoor
