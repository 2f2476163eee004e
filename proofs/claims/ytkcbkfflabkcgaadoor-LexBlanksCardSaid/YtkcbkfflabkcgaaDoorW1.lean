/-
  Walks of the small float functions of the program and of the references: what each returns, as a plain function of the bits.
-/
import Derived.Test.YtkcbkfflabkcgaaDoorChecked
import Derived.Test.YtkcbkfflabkcgaaDoorFp
import Derived.WalkKit
import Derived.WalkSpells
import Derived.WalkLawsBesides
import Derived.Handy
import Derived.Lib.Hide
import Derived.Deep.QuietTactic
import Derived.BigQuiet
namespace Go.Proofs.YtkcbkfflabkcgaaDoor
open Go.RowKit

theorem f64fmt : FloatKind.f64.format = Ieee.double := rfl

theorem ord_eq (a b : Nat) : (FloatKind.f64.format.order a b == some .eq) = Fl.feq a b := Fl.order_eq a b
theorem ord_ne (a b : Nat) : (FloatKind.f64.format.order a b != some .eq) = !Fl.feq a b := by rw [← Fl.order_eq a b]; rfl
theorem ord_lt (a b : Nat) : (FloatKind.f64.format.order a b == some .lt) = Fl.flt a b := Fl.order_lt a b
theorem ord_gt (a b : Nat) : (FloatKind.f64.format.order a b == some .gt) = Fl.flt b a := Fl.order_gt a b
theorem feq_self (a : Nat) : Fl.feq a a = !Fl.isNaN a := by unfold Fl.feq; simp
theorem ret_val {a b : Value} (h : a = b) : Ending.returned a = .returned b := by rw [h]

theorem bits_run (b : Nat) (w : World) : (callFunc 16 #[.float .f64 b]).run Tryd.prog w = .ok (.value (.int .u64 b)) w :=
  run_callFunc_extern Tryd.func16 (by kernel_rfl) (by kernel_rfl) (by kernel_rfl) (e := Extern.MathFloatBits.float64bits) (by kernel_rfl) _ w
theorem frombits_run (n : Int) (w : World) : (callFunc 29 #[.int .u64 n]).run Tryd.prog w = .ok (.value (.float .f64 n.toNat)) w :=
  run_callFunc_extern Tryd.func29 (by kernel_rfl) (by kernel_rfl) (by kernel_rfl) (e := Extern.MathFloatBits.float64frombits) (by kernel_rfl) _ w

set_option maxHeartbeats 400000 in
theorem canon_any (b : Nat) (w : World) : Calls Tryd.prog 38 #[.float .f64 b] w fun e w' => e = .returned (.float .f64 (canon b)) ∧ w = w' := by
  have h1 := ord_ne b b
  rw [feq_self] at h1
  have hf := frombits_run
  cases hn : Fl.isNaN b
  · rw [hn] at h1
    have hc : canon b = b := by simp [canon, hn]
    have HC := Lib.hid hc; clear hc
    go_enter Tryd.func38, Tryd.ntmps38
    go_wp2
    go_ret
    exact ⟨ret_val (by rw [HC.out]; rfl), rfl⟩
  · rw [hn] at h1
    have hc : canon b = cnan := by simp [canon, hn]
    have HC := Lib.hid hc; clear hc
    go_enter Tryd.func38, Tryd.ntmps38
    go_wp2
    go_ret
    exact ⟨ret_val (by rw [HC.out]; rfl), rfl⟩

set_option maxHeartbeats 400000 in
theorem rnan_any (b : Nat) (w : World) : Calls Tryd.prog 19 #[.float .f64 b] w fun e w' => e = .returned (.bool (Fl.isNaN b)) ∧ w = w' := by
  have hf := bits_run
  go_enter Tryd.func19, Tryd.ntmps19
  go_wp2
  go_ret
  exact ⟨ret_val (by rw [← nan_bits b]; rfl), rfl⟩

set_option maxHeartbeats 400000 in
theorem rminus_any (b : Nat) (hb : F64 b) (w : World) : Calls Tryd.prog 18 #[.float .f64 b] w fun e w' => e = .returned (.bool (Fl.ng b)) ∧ w = w' := by
  have hf := bits_run
  go_enter Tryd.func18, Tryd.ntmps18
  go_wp2
  go_ret
  exact ⟨ret_val (by rw [← ng_bits hb]; rfl), rfl⟩

set_option maxHeartbeats 400000 in
theorem rcanon_any (b : Nat) (w : World) : Calls Tryd.prog 17 #[.float .f64 b] w fun e w' => e = .returned (.float .f64 (canon b)) ∧ w = w' := by
  have hf := frombits_run
  cases hn : Fl.isNaN b
  · have hc : canon b = b := by simp [canon, hn]
    have HC := Lib.hid hc; clear hc
    go_enter Tryd.func17, Tryd.ntmps17
    go_wp2_with (go_at_call 19; refine (rnan_any _ _).mono ?_; rintro e w' ⟨rfl, rfl⟩)
    go_ret
    exact ⟨ret_val (by rw [HC.out]; rfl), rfl⟩
  · have hc : canon b = cnan := by simp [canon, hn]
    have HC := Lib.hid hc; clear hc
    go_enter Tryd.func17, Tryd.ntmps17
    go_wp2_with (go_at_call 19; refine (rnan_any _ _).mono ?_; rintro e w' ⟨rfl, rfl⟩)
    go_ret
    exact ⟨ret_val (by rw [HC.out]; rfl), rfl⟩

set_option maxHeartbeats 400000 in
theorem rsame_any (a b : Nat) (w : World) : Calls Tryd.prog 8 #[.float .f64 a, .float .f64 b] w fun e w' => e = .returned (.bool (decide (canon a = canon b))) ∧ w = w' := by
  have hf := bits_run
  go_enter Tryd.func8, Tryd.ntmps8
  go_wp2_with (go_at_call 17; refine (rcanon_any _ _).mono ?_; rintro e w' ⟨rfl, rfl⟩)
  go_ret
  exact ⟨ret_val (by show Value.bool ((canon a : Int) == (canon b : Int)) = _; congr 1; rw [Bool.eq_iff_iff]; simp; omega), rfl⟩

theorem keyB_i64 {b : Nat} : -9223372036854775808 ≤ keyB b ∧ keyB b ≤ 9223372036854775807 := by
  have hl := rg_lt b
  unfold keyB; split
  · omega
  · split <;> omega

end Go.Proofs.YtkcbkfflabkcgaaDoor
