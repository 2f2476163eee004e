/-
  The walk of the law FloatSums.
-/
import Derived.Test.YtbcgecenfedjdaaDoorL1
namespace Go.Proofs.YtbcgecenfedjdaaDoor
open Go.RowKit

set_option maxHeartbeats 400000 in
theorem bits1_any (b : Nat) (w : World) : Calls Tryd.prog 30 #[.float .f64 b] w fun e w' => e = .returned (.int .u64 b) ∧ w = w' := by
  have hf := bits_run
  go_enter Tryd.func30, Tryd.ntmps30
  go_wp2
  go_ret
  exact ⟨ret_val rfl, rfl⟩

theorem mulB_one {a : Nat} (ha : F64 a) : mulB a 4607182418800017408 = canon a := by
  rw [mul_comm']
  by_cases hn : Fl.isNaN a = true
  · rw [mul_comm', mul_nan_left _ hn]; unfold canon; rw [hn]; rfl
  · have hn' : Fl.isNaN a = false := by simpa using hn
    have hle := nan_lt hn'
    by_cases hi : Fl.rg a = 9218868437227405312
    · unfold mulB Ieee.Format.mul
      rw [show Ieee.double.read 4607182418800017408 = .number false 4503599627370496 (-52) from by decide, Fl.read_inf hi]
      have hw := Fl.word_of ha
      rw [hi] at hw
      simp only [Ieee.Datum.product]
      rw [if_neg (by omega), Bool.xor_false]
      show some1 (some (Ieee.double.word (Fl.ng a) Ieee.double.infRung)) = canon a
      rw [Fl.iR, hw]; rfl
    · unfold mulB; rw [mul_one ha (by omega)]; rfl

set_option maxRecDepth 100000 in
set_option maxHeartbeats 8000000 in
theorem lawFloatSums (a : Nat) (ha : F64 a) (b : Nat) (hb : F64 b) (w : World) (hE : Env w) :
    Calls Tryd.prog 8 #[.float .f64 a, .float .f64 b] w fun e w' => e = .returned (.bool true) ∧ Below w.heap.size w w' := by
  have HA := Lib.hid (awake_any w hE)
  have H1 := Lib.hid (fun w => below_of (add_any a b w))
  have h2 := fun w => below_of (add_any b a w)
  rw [add_comm' b a] at h2
  have H2 := Lib.hid h2; clear h2
  have H3 := Lib.hid (fun w => below_of (mul_any a b w))
  have h4 := fun w => below_of (mul_any b a w)
  rw [mul_comm' b a] at h4
  have H4 := Lib.hid h4; clear h4
  have H5 := Lib.hid (fun w => below_of (sub_any a b w))
  have H6 := Lib.hid (neg_any b)
  have h7 := fun w => below_of (add_any a (negB b) w)
  rw [← sub_eq a hb] at h7
  have H7 := Lib.hid h7; clear h7
  have H8 := Lib.hid (fun w => below_of (div_any a b w))
  have H9 := Lib.hid (neg_any a)
  have c1 := rcanon_any (addB a b)
  rw [show canon (addB a b) = addB a b from canon_some1 _] at c1
  have C1 := Lib.hid c1; clear c1
  have c2 := rcanon_any (mulB a b)
  rw [show canon (mulB a b) = mulB a b from canon_some1 _] at c2
  have C2 := Lib.hid c2; clear c2
  have c3 := rcanon_any (divB a b)
  rw [show canon (divB a b) = divB a b from canon_some1 _] at c3
  have C3 := Lib.hid c3; clear c3
  have c4 := rcanon_any (negB a)
  rw [show canon (negB a) = negB a from canon_canon _] at c4
  have C4 := Lib.hid c4; clear c4
  have R1 := Lib.hid (rnan_any a)
  have n2 := neg_any (negB a)
  rw [neg_neg' ha] at n2
  have N2 := Lib.hid n2; clear n2
  have m1 := fun w => below_of (mul_any a 4607182418800017408 w)
  rw [mulB_one ha] at m1
  have M1 := Lib.hid m1; clear m1
  go_enter Tryd.func8, Tryd.ntmps8
  go_wp2_with fail
  refine HA.out.mono ?_; rintro e w1 ⟨rfl, hw1⟩
  go_wp2_with fail
  refine (H1.out _).mono ?_; rintro e w2 ⟨rfl, kw2⟩
  have hw2 := below_tr hw1 kw2
  clear hw1 kw2
  go_wp2_with fail
  refine (bits1_any _ _).mono ?_; rintro e w' ⟨rfl, rfl⟩
  go_wp2_with fail
  refine (H2.out _).mono ?_; rintro e w3 ⟨rfl, kw3⟩
  have hw3 := below_tr hw2 kw3
  clear hw2 kw3
  go_wp2_with fail
  refine (bits1_any _ _).mono ?_; rintro e w' ⟨rfl, rfl⟩
  go_wp2_with fail
  refine (H3.out _).mono ?_; rintro e w4 ⟨rfl, kw4⟩
  have hw4 := below_tr hw3 kw4
  clear hw3 kw4
  go_wp2_with fail
  refine (bits1_any _ _).mono ?_; rintro e w' ⟨rfl, rfl⟩
  go_wp2_with fail
  refine (H4.out _).mono ?_; rintro e w5 ⟨rfl, kw5⟩
  have hw5 := below_tr hw4 kw5
  clear hw4 kw5
  go_wp2_with fail
  refine (bits1_any _ _).mono ?_; rintro e w' ⟨rfl, rfl⟩
  go_wp2_with fail
  refine (H5.out _).mono ?_; rintro e w6 ⟨rfl, kw6⟩
  have hw6 := below_tr hw5 kw6
  clear hw5 kw6
  go_wp2_with fail
  refine (bits1_any _ _).mono ?_; rintro e w' ⟨rfl, rfl⟩
  go_wp2_with fail
  refine (H6.out _).mono ?_; rintro e w' ⟨rfl, rfl⟩
  go_wp2_with fail
  refine (H7.out _).mono ?_; rintro e w7 ⟨rfl, kw7⟩
  have hw7 := below_tr hw6 kw7
  clear hw6 kw7
  go_wp2_with fail
  refine (bits1_any _ _).mono ?_; rintro e w' ⟨rfl, rfl⟩
  go_wp2_with fail
  refine (H1.out _).mono ?_; rintro e w8 ⟨rfl, kw8⟩
  have hw8 := below_tr hw7 kw8
  clear hw7 kw8
  go_wp2_with fail
  refine (H3.out _).mono ?_; rintro e w9 ⟨rfl, kw9⟩
  have hw9 := below_tr hw8 kw9
  clear hw8 kw9
  go_wp2_with fail
  refine (H8.out _).mono ?_; rintro e w10 ⟨rfl, kw10⟩
  have hw10 := below_tr hw9 kw10
  clear hw9 kw10
  go_wp2_with fail
  refine (H9.out _).mono ?_; rintro e w' ⟨rfl, rfl⟩
  go_wp2_with fail
  refine wp_loop_rounds 5 ?_
  rw [rounds_succ]
  go_wp2_with fail
  refine (bits1_any _ _).mono ?_; rintro e w' ⟨rfl, rfl⟩
  go_wp2_with fail
  refine (C1.out _).mono ?_; rintro e w' ⟨rfl, rfl⟩
  go_wp2_with fail
  refine (bits1_any _ _).mono ?_; rintro e w' ⟨rfl, rfl⟩
  go_wp2_with fail
  rw [rounds_succ]
  go_wp2_with fail
  refine (bits1_any _ _).mono ?_; rintro e w' ⟨rfl, rfl⟩
  go_wp2_with fail
  refine (C2.out _).mono ?_; rintro e w' ⟨rfl, rfl⟩
  go_wp2_with fail
  refine (bits1_any _ _).mono ?_; rintro e w' ⟨rfl, rfl⟩
  go_wp2_with fail
  rw [rounds_succ]
  go_wp2_with fail
  refine (bits1_any _ _).mono ?_; rintro e w' ⟨rfl, rfl⟩
  go_wp2_with fail
  refine (C3.out _).mono ?_; rintro e w' ⟨rfl, rfl⟩
  go_wp2_with fail
  refine (bits1_any _ _).mono ?_; rintro e w' ⟨rfl, rfl⟩
  go_wp2_with fail
  rw [rounds_succ]
  go_wp2_with fail
  refine (bits1_any _ _).mono ?_; rintro e w' ⟨rfl, rfl⟩
  go_wp2_with fail
  refine (C4.out _).mono ?_; rintro e w' ⟨rfl, rfl⟩
  go_wp2_with fail
  refine (bits1_any _ _).mono ?_; rintro e w' ⟨rfl, rfl⟩
  go_wp2_with fail
  rw [rounds_succ]
  go_wp2_with fail
  have hwA := hw10.alloc hw10.size (.cells #[.float .f64 (addB a b), .float .f64 (mulB a b), .float .f64 (divB a b), .float .f64 (negB a)] 22)
  generalize w10.alloc (.cells #[.float .f64 (addB a b), .float .f64 (mulB a b), .float .f64 (divB a b), .float .f64 (negB a)] 22) = wA at hwA ⊢
  clear hw10 C1 C2 C3 C4 H1 H2 H3 H4 H5 H6 H7 H8
  cases hn : Fl.isNaN a
  · refine (R1.out _).mono ?_; rintro e w' ⟨rfl, rfl⟩
    go_wp2_with fail
    refine (H9.out _).mono ?_; rintro e w' ⟨rfl, rfl⟩
    go_wp2_with fail
    refine (N2.out _).mono ?_; rintro e w' ⟨rfl, rfl⟩
    go_wp2_with fail
    refine (bits1_any _ _).mono ?_; rintro e w' ⟨rfl, rfl⟩
    go_wp2_with fail
    refine (rcanon_any _ _).mono ?_; rintro e w' ⟨rfl, rfl⟩
    go_wp2_with fail
    refine (bits1_any _ _).mono ?_; rintro e w' ⟨rfl, rfl⟩
    go_wp2_with fail
    refine (M1.out _).mono ?_; rintro e wZ ⟨rfl, kwZ⟩
    have hwZ := below_tr hwA kwZ
    clear hwA kwZ
    go_wp2_with fail
    refine (bits1_any _ _).mono ?_; rintro e w' ⟨rfl, rfl⟩
    go_wp2_with fail
    refine (rcanon_any _ _).mono ?_; rintro e w' ⟨rfl, rfl⟩
    go_wp2_with fail
    refine (bits1_any _ _).mono ?_; rintro e w' ⟨rfl, rfl⟩
    go_wp2_with fail
    go_ret
    exact ⟨ret_val rfl, hwZ⟩
  · refine (R1.out _).mono ?_; rintro e w' ⟨rfl, rfl⟩
    have a1 := fun w => below_of (add_any a b w)
    rw [add_nan_left b hn] at a1
    have A1 := Lib.hid a1; clear a1
    have a2 := fun w => below_of (div_any b a w)
    rw [div_nan_right b hn] at a2
    have A2 := Lib.hid a2; clear a2
    have a3 := equal_any a a
    rw [feq_self, hn] at a3
    have A3 := Lib.hid a3; clear a3
    have a4 := rnan_any cnan
    rw [nan_cnan] at a4
    have A4 := Lib.hid a4; clear a4
    go_wp2_with fail
    refine (A1.out _).mono ?_; rintro e wB ⟨rfl, kwB⟩
    have hwB := below_tr hwA kwB
    clear hwA kwB
    go_wp2_with fail
    refine (A4.out _).mono ?_; rintro e w' ⟨rfl, rfl⟩
    go_wp2_with fail
    refine (A2.out _).mono ?_; rintro e wC ⟨rfl, kwC⟩
    have hwC := below_tr hwB kwC
    clear hwB kwC
    go_wp2_with fail
    refine (A4.out _).mono ?_; rintro e w' ⟨rfl, rfl⟩
    go_wp2_with fail
    refine (A3.out _).mono ?_; rintro e w' ⟨rfl, rfl⟩
    go_wp2_with fail
    refine (H9.out _).mono ?_; rintro e w' ⟨rfl, rfl⟩
    go_wp2_with fail
    refine (N2.out _).mono ?_; rintro e w' ⟨rfl, rfl⟩
    go_wp2_with fail
    refine (bits1_any _ _).mono ?_; rintro e w' ⟨rfl, rfl⟩
    go_wp2_with fail
    refine (rcanon_any _ _).mono ?_; rintro e w' ⟨rfl, rfl⟩
    go_wp2_with fail
    refine (bits1_any _ _).mono ?_; rintro e w' ⟨rfl, rfl⟩
    go_wp2_with fail
    refine (M1.out _).mono ?_; rintro e wZ ⟨rfl, kwZ⟩
    have hwZ := below_tr hwC kwZ
    clear hwC kwZ
    go_wp2_with fail
    refine (bits1_any _ _).mono ?_; rintro e w' ⟨rfl, rfl⟩
    go_wp2_with fail
    refine (rcanon_any _ _).mono ?_; rintro e w' ⟨rfl, rfl⟩
    go_wp2_with fail
    refine (bits1_any _ _).mono ?_; rintro e w' ⟨rfl, rfl⟩
    go_wp2_with fail
    go_ret
    exact ⟨ret_val rfl, hwZ⟩
end Go.Proofs.YtbcgecenfedjdaaDoor
