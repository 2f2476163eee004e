/-
  Walks of the small float functions of the program and of the references: what each returns, as a plain function of the bits.
-/
import Derived.Test.YtnaamiecljinnaaGreatChecked
import Derived.Test.YtnaamiecljinnaaGreatFp
import Derived.WalkKit
import Derived.WalkSpells
import Derived.WalkLawsBesides
import Derived.Handy
import Derived.Lib.Hide
import Derived.Deep.QuietTactic
import Derived.BigQuiet
namespace Go.Proofs.YtnaamiecljinnaaGreat
open Go.RowKit

theorem f64fmt : FloatKind.f64.format = Ieee.double := rfl

theorem ord_eq (a b : Nat) : (FloatKind.f64.format.order a b == some .eq) = Fl.feq a b := Fl.order_eq a b
theorem ord_ne (a b : Nat) : (FloatKind.f64.format.order a b != some .eq) = !Fl.feq a b := by rw [← Fl.order_eq a b]; rfl
theorem ord_lt (a b : Nat) : (FloatKind.f64.format.order a b == some .lt) = Fl.flt a b := Fl.order_lt a b
theorem ord_gt (a b : Nat) : (FloatKind.f64.format.order a b == some .gt) = Fl.flt b a := Fl.order_gt a b
theorem feq_self (a : Nat) : Fl.feq a a = !Fl.isNaN a := by unfold Fl.feq; simp
theorem ret_val {a b : Value} (h : a = b) : Ending.returned a = .returned b := by rw [h]

theorem bits_run (b : Nat) (w : World) : (callFunc 75 #[.float .f64 b]).run Tryz.prog w = .ok (.value (.int .u64 b)) w :=
  run_callFunc_extern Tryz.func75 (by kernel_rfl) (by kernel_rfl) (by kernel_rfl) (e := Extern.MathFloatBits.float64bits) (by kernel_rfl) _ w
theorem frombits_run (n : Int) (w : World) : (callFunc 112 #[.int .u64 n]).run Tryz.prog w = .ok (.value (.float .f64 n.toNat)) w :=
  run_callFunc_extern Tryz.func112 (by kernel_rfl) (by kernel_rfl) (by kernel_rfl) (e := Extern.MathFloatBits.float64frombits) (by kernel_rfl) _ w

set_option maxHeartbeats 400000 in
theorem canon_any (b : Nat) (w : World) : Calls Tryz.prog 89 #[.float .f64 b] w fun e w' => e = .returned (.float .f64 (canon b)) ∧ w = w' := by
  have h1 := ord_ne b b
  rw [feq_self] at h1
  have hf := frombits_run
  cases hn : Fl.isNaN b
  · rw [hn] at h1
    have hc : canon b = b := by simp [canon, hn]
    have HC := Lib.hid hc; clear hc
    go_enter Tryz.func89, Tryz.ntmps89
    go_wp2
    go_ret
    exact ⟨ret_val (by rw [HC.out]; rfl), rfl⟩
  · rw [hn] at h1
    have hc : canon b = cnan := by simp [canon, hn]
    have HC := Lib.hid hc; clear hc
    go_enter Tryz.func89, Tryz.ntmps89
    go_wp2
    go_ret
    exact ⟨ret_val (by rw [HC.out]; rfl), rfl⟩

set_option maxHeartbeats 400000 in
theorem rnan_any (b : Nat) (w : World) : Calls Tryz.prog 111 #[.float .f64 b] w fun e w' => e = .returned (.bool (Fl.isNaN b)) ∧ w = w' := by
  have hf := bits_run
  go_enter Tryz.func111, Tryz.ntmps111
  go_wp2
  go_ret
  exact ⟨ret_val (by rw [← nan_bits b]; rfl), rfl⟩

set_option maxHeartbeats 400000 in
theorem rminus_any (b : Nat) (hb : F64 b) (w : World) : Calls Tryz.prog 162 #[.float .f64 b] w fun e w' => e = .returned (.bool (Fl.ng b)) ∧ w = w' := by
  have hf := bits_run
  go_enter Tryz.func162, Tryz.ntmps162
  go_wp2
  go_ret
  exact ⟨ret_val (by rw [← ng_bits hb]; rfl), rfl⟩

set_option maxHeartbeats 400000 in
theorem rcanon_any (b : Nat) (w : World) : Calls Tryz.prog 76 #[.float .f64 b] w fun e w' => e = .returned (.float .f64 (canon b)) ∧ w = w' := by
  have hf := frombits_run
  cases hn : Fl.isNaN b
  · have hc : canon b = b := by simp [canon, hn]
    have HC := Lib.hid hc; clear hc
    go_enter Tryz.func76, Tryz.ntmps76
    go_wp2_with (go_at_call 111; refine (rnan_any _ _).mono ?_; rintro e w' ⟨rfl, rfl⟩)
    go_ret
    exact ⟨ret_val (by rw [HC.out]; rfl), rfl⟩
  · have hc : canon b = cnan := by simp [canon, hn]
    have HC := Lib.hid hc; clear hc
    go_enter Tryz.func76, Tryz.ntmps76
    go_wp2_with (go_at_call 111; refine (rnan_any _ _).mono ?_; rintro e w' ⟨rfl, rfl⟩)
    go_ret
    exact ⟨ret_val (by rw [HC.out]; rfl), rfl⟩

set_option maxHeartbeats 400000 in
theorem rsame_any (a b : Nat) (w : World) : Calls Tryz.prog 141 #[.float .f64 a, .float .f64 b] w fun e w' => e = .returned (.bool (decide (canon a = canon b))) ∧ w = w' := by
  have hf := bits_run
  go_enter Tryz.func141, Tryz.ntmps141
  go_wp2_with (go_at_call 76; refine (rcanon_any _ _).mono ?_; rintro e w' ⟨rfl, rfl⟩)
  go_ret
  exact ⟨ret_val (by show Value.bool ((canon a : Int) == (canon b : Int)) = _; congr 1; rw [Bool.eq_iff_iff]; simp; omega), rfl⟩

set_option maxHeartbeats 400000 in
theorem rkey_any (b : Nat) (hb : F64 b) (w : World) : Calls Tryz.prog 119 #[.float .f64 b] w fun e w' => e = .returned (.int .i64 (keyB b)) ∧ w = w' := by
  have hf := bits_run
  cases hn : Fl.isNaN b
  · rcases ng_cases hb with ⟨h, he⟩ | ⟨h, he⟩
    · have hc : keyB b = -1 - (Fl.rg b : Int) := by simp [keyB, hn, h]
      have HC := Lib.hid hc; clear hc
      have hd := ng_bits hb
      rw [h] at hd
      have hl := rg_lt b
      have e1 : IntKind.u64.wrap ((b : Int) - 9223372036854775808) = (Fl.rg b : Int) := by rw [IntWalk.u64_in _ (by omega)]; omega
      have E1 := Lib.hid e1; clear e1
      have e2 : wrap64 (-1 - wrap64 (Fl.rg b : Int)) = -1 - (Fl.rg b : Int) := by rw [IntWalk.wrap64_in (Fl.rg b : Int) (by omega), IntWalk.wrap64_in _ (by omega)]
      have E2 := Lib.hid e2; clear e2
      clear he hl
      go_enter Tryz.func119, Tryz.ntmps119
      go_wp2_with (go_at_call 111; refine (rnan_any _ _).mono ?_; rintro e w' ⟨rfl, rfl⟩)
      go_ret
      exact ⟨ret_val (by rw [HC.out, ← E2.out, ← E1.out]; rfl), rfl⟩
    · have hc : keyB b = (Fl.rg b : Int) := by simp [keyB, hn, h]
      have HC := Lib.hid hc; clear hc
      have hd := ng_bits hb
      rw [h] at hd
      have hl := rg_lt b
      have e2 : wrap64 (b : Int) = (Fl.rg b : Int) := by rw [IntWalk.wrap64_in _ (by omega)]; omega
      have E2 := Lib.hid e2; clear e2
      clear he hl
      go_enter Tryz.func119, Tryz.ntmps119
      go_wp2_with (go_at_call 111; refine (rnan_any _ _).mono ?_; rintro e w' ⟨rfl, rfl⟩)
      go_ret
      exact ⟨ret_val (by rw [HC.out, ← E2.out]; rfl), rfl⟩
  · have hc : keyB b = 9223372036854775807 := keyB_nan hn
    have HC := Lib.hid hc; clear hc
    go_enter Tryz.func119, Tryz.ntmps119
    go_wp2_with (go_at_call 111; refine (rnan_any _ _).mono ?_; rintro e w' ⟨rfl, rfl⟩)
    go_ret
    exact ⟨ret_val (by rw [HC.out]; rfl), rfl⟩

theorem keyB_i64 {b : Nat} : -9223372036854775808 ≤ keyB b ∧ keyB b ≤ 9223372036854775807 := by
  have hl := rg_lt b
  unfold keyB; split
  · omega
  · split <;> omega

set_option maxHeartbeats 400000 in
theorem rorder_any (a b : Nat) (ha : F64 a) (hb : F64 b) (w : World) : Calls Tryz.prog 82 #[.float .f64 a, .float .f64 b] w fun e w' => e = .returned (.int .i64 (ordB a b)) ∧ w = w' := by
  by_cases h1 : keyB a < keyB b
  · have hc : ordB a b = -1 := by unfold ordB; rw [if_pos h1]
    have HC := Lib.hid hc; clear hc
    go_enter Tryz.func82, Tryz.ntmps82
    go_wp2_with fail
    refine (rkey_any _ ha _).mono ?_; rintro e w' ⟨rfl, rfl⟩
    go_wp2_with fail
    refine (rkey_any _ hb _).mono ?_; rintro e w' ⟨rfl, rfl⟩
    go_wp2_with fail
    go_ret
    exact ⟨ret_val (by rw [HC.out]; rfl), rfl⟩
  · by_cases h2 : keyB b < keyB a
    · have hc : ordB a b = 1 := by unfold ordB; rw [if_neg h1, if_pos h2]
      have HC := Lib.hid hc; clear hc
      go_enter Tryz.func82, Tryz.ntmps82
      go_wp2_with fail
      refine (rkey_any _ ha _).mono ?_; rintro e w' ⟨rfl, rfl⟩
      go_wp2_with fail
      refine (rkey_any _ hb _).mono ?_; rintro e w' ⟨rfl, rfl⟩
      go_wp2_with fail
      go_ret
      exact ⟨ret_val (by rw [HC.out]; rfl), rfl⟩
    · have hc : ordB a b = 0 := by unfold ordB; rw [if_neg h1, if_neg h2]
      have HC := Lib.hid hc; clear hc
      go_enter Tryz.func82, Tryz.ntmps82
      go_wp2_with fail
      refine (rkey_any _ ha _).mono ?_; rintro e w' ⟨rfl, rfl⟩
      go_wp2_with fail
      refine (rkey_any _ hb _).mono ?_; rintro e w' ⟨rfl, rfl⟩
      go_wp2_with fail
      go_ret
      exact ⟨ret_val (by rw [HC.out]; rfl), rfl⟩

end Go.Proofs.YtnaamiecljinnaaGreat
