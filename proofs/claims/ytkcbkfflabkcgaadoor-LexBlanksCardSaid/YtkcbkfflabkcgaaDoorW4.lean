/-
  Walks of package math's Frexp and Ldexp, at what the program hands them, and of Trunc.
-/
import Derived.Test.YtkcbkfflabkcgaaDoorW3
namespace Go.Proofs.YtkcbkfflabkcgaaDoor
open Go.RowKit

theorem frexp_frac {n : Nat} (h : n < 9218868437227405312) : (bits .or .u64 (bits .andNot .u64 (n : Int) 9218868437227405312) 4602678819172646912).toNat = 1022 * 4503599627370496 + n % 4503599627370496 := by
  have hm : n % 4503599627370496 < 4503599627370496 := Nat.mod_lt _ (by omega)
  have ho := or_field (f := n % 4503599627370496) (c := 1022) hm (by omega)
  rw [show ((1022 * 4503599627370496 : Nat) : Int) = 4602678819172646912 from by decide] at ho
  rw [frac_bits (by omega), ho, Int.toNat_natCast]
theorem frexp_exp {n : Nat} {m : Int} (h : n < 9218868437227405312) (h1 : -52 ≤ m) (h2 : m ≤ 0) :
    wrap64 (m + wrap64 (wrap64 (wrap64 (bits .and .u64 ((n : Int) / 4503599627370496) 2047) - 1023) + 1)) = m + ((n / 4503599627370496 : Nat) : Int) - 1022 := by
  rw [show (n : Int) / 4503599627370496 = ((n / 4503599627370496 : Nat) : Int) from by omega, field_and _ (by omega), Nat.mod_eq_of_lt (by omega)]
  have hq : n / 4503599627370496 < 2048 := by omega
  generalize n / 4503599627370496 = q at *
  simp only [wrap64]; omega

set_option maxHeartbeats 400000 in
theorem frexp_any (r : Nat) (h0 : r ≠ 0) (h : r < 9218868437227405312) (w : World) :
    Calls Tryd.prog 71 #[.float .f64 r] w fun e w' => e = .returned (.tuple #[.float .f64 (frx r), .int .i64 (frxE r)]) ∧ w = w' := by
  obtain ⟨hb, e0, e1, e2, ho⟩ := pos_facts h0 h
  have hi := isInf_any r hb
  rw [e0, show decide (r = 9218868437227405312) = false from by simp; omega] at hi
  have hn := isNaN_any r
  rw [e2] at hn
  have HI := Lib.hid hi
  have HN := Lib.hid hn
  have HM := Lib.hid (normalize_any r h0 h)
  clear hi hn
  obtain ⟨n1, n2⟩ := nrm_bounds h0 h
  have hf := bits_run
  have hg := frombits_run
  have HX := Lib.hid (show frx r = 1022 * 4503599627370496 + nrm r % 4503599627370496 from rfl)
  have HE := Lib.hid (show frxE r = nrmE r + ((nrm r / 4503599627370496 : Nat) : Int) - 1022 from rfl)
  have hnE : -52 ≤ nrmE r ∧ nrmE r ≤ 0 := by unfold nrmE; split <;> omega
  generalize frx r = x at *
  generalize frxE r = y at *
  generalize nrm r = n at *
  generalize nrmE r = m at *
  have HF := Lib.hid (frexp_frac n2)
  have HG := Lib.hid (frexp_exp n2 hnE.1 hnE.2)
  clear n1 n2 e0 e1 e2 hb h0 h
  go_enter Tryd.func71, Tryd.ntmps71
  go_wp2_with (first
    | (go_at_call 85; go_in)
    | (go_at_call 80; refine (HI.out _).mono ?_; rintro e w' ⟨rfl, rfl⟩)
    | (go_at_call 81; refine (HN.out _).mono ?_; rintro e w' ⟨rfl, rfl⟩)
    | (go_at_call 82; refine (HM.out _).mono ?_; rintro e w' ⟨rfl, rfl⟩))
  go_ret2
  exact ⟨ret_val (by rw [HX.out, HE.out, ← HF.out, ← HG.out]; rfl), rfl⟩

set_option maxHeartbeats 400000 in
theorem copysign_zero (r : Nat) (h : r < 9223372036854775808) (w : World) : Calls Tryd.prog 83 #[.float .f64 0, .float .f64 r] w fun e w' => e = .returned (.float .f64 0) ∧ w = w' := by
  have hf := bits_run
  have hg := frombits_run
  have e1 : bits .and .u64 (r : Int) 9223372036854775808 = 0 := by
    have := bits_and_u64_nat r 9223372036854775808 (by omega) (by omega)
    rw [show ((9223372036854775808 : Nat) : Int) = 9223372036854775808 from rfl] at this
    rw [this]
    have z : r &&& 9223372036854775808 = 0 := by
      apply Nat.eq_of_testBit_eq; intro i
      rw [Nat.testBit_and, show (9223372036854775808 : Nat) = 2 ^ 63 from rfl, Nat.zero_testBit]
      by_cases g : i = 63
      · subst g; rw [Nat.testBit_lt_two_pow (show r < 2 ^ 63 from h)]; rfl
      · rw [Nat.testBit_two_pow_of_ne (by omega)]; simp
    rw [z]; rfl
  have e0 : bits .andNot .u64 0 9223372036854775808 = 0 := by decide
  have e2 : bits .or .u64 0 0 = 0 := by decide
  clear h
  go_enter Tryd.func83, Tryd.ntmps83
  go_wp2
  go_ret
  exact ⟨ret_val rfl, rfl⟩

set_option maxHeartbeats 1000000 in
theorem ldexp_any (r : Nat) (hn : 4503599627370496 ≤ r) (h : r < 9218868437227405312) (e : Int) (h1 : -100000 ≤ e) (h2 : e ≤ 100000) (w : World) :
    Calls Tryd.prog 55 #[.float .f64 r, .int .i64 e] w fun en w' => en = .returned (.float .f64 (ldxB r e)) ∧ w = w' := by
  obtain ⟨hb, e0, e1, e2, ho⟩ := pos_facts (show r ≠ 0 by omega) h
  have hi := isInf_any r hb
  rw [e0, show decide (r = 9218868437227405312) = false from by simp; omega] at hi
  have hnn := isNaN_any r
  rw [e2] at hnn
  have HI := Lib.hid hi
  have HN := Lib.hid hnn
  have hm := normalize_any r (by omega) h
  rw [show nrm r = r from by unfold nrm; rw [if_neg (by omega)], show nrmE r = 0 from by unfold nrmE; rw [if_neg (by omega)]] at hm
  have HM := Lib.hid hm
  have HC := Lib.hid (copysign_zero r (by omega))
  have HP := Lib.hid inf_pos
  clear hi hnn hm
  have hf := bits_run
  have hg := frombits_run
  have HL := Lib.hid (ldxB.eq_def r e)
  have HV := Lib.hid (@ldx_mul r e)
  have HS := Lib.hid (ldxS.eq_def r e)
  have hE : ldxE r e = e + ((r / 4503599627370496 : Nat) : Int) - 1023 := rfl
  have hq : bits .and .i64 (wrap64 ((r : Int) / 4503599627370496)) 2047 = ((r / 4503599627370496 : Nat) : Int) := by
    rw [show (r : Int) / 4503599627370496 = ((r / 4503599627370496 : Nat) : Int) from by omega, IntWalk.wrap64_in _ (by omega), field_and_i _ (by omega), Nat.mod_eq_of_lt (by omega)]
  have hqb : r / 4503599627370496 < 2047 := by omega
  have HF := Lib.hid (frac_bits (r := r) (by omega))
  have hfm : r % 4503599627370496 < 4503599627370496 := Nat.mod_lt _ (by omega)
  have HO := Lib.hid (fun c hc => or_field (f := r % 4503599627370496) (c := c) hfm hc)
  have HFM := Lib.hid hfm
  clear e0 e1 e2 hb hn h hfm
  generalize r / 4503599627370496 = q at *
  generalize r % 4503599627370496 = f at *
  generalize ldxB r e = res at *
  have HE := Lib.hid hE; clear hE
  by_cases c1 : e + ((q : Int) - 1023) < -1075
  · rw [if_pos (by rw [HE.out]; omega)] at HL
    go_enter Tryd.func55, Tryd.ntmps55
    go_wp2_with (first
      | (go_at_call 69; go_in)
      | (go_at_call 80; refine (HI.out _).mono ?_; rintro e w' ⟨rfl, rfl⟩)
      | (go_at_call 81; refine (HN.out _).mono ?_; rintro e w' ⟨rfl, rfl⟩)
      | (go_at_call 83; refine (HC.out _).mono ?_; rintro e w' ⟨rfl, rfl⟩)
      | (go_at_call 82; refine (HM.out _).mono ?_; rintro e w' ⟨rfl, rfl⟩))
    go_ret
    exact ⟨ret_val (by rw [HL.out]; rfl), rfl⟩
  · by_cases c2 : 1023 < e + ((q : Int) - 1023)
    · rw [if_neg (by rw [HE.out]; omega), if_pos (by rw [HE.out]; omega)] at HL
      go_enter Tryd.func55, Tryd.ntmps55
      go_wp2_with (first
        | (go_at_call 69; go_in)
        | (go_at_call 80; refine (HI.out _).mono ?_; rintro e w' ⟨rfl, rfl⟩)
        | (go_at_call 81; refine (HN.out _).mono ?_; rintro e w' ⟨rfl, rfl⟩)
        | (go_at_call 40; refine (HP.out _).mono ?_; rintro e w' ⟨rfl, rfl⟩)
        | (go_at_call 82; refine (HM.out _).mono ?_; rintro e w' ⟨rfl, rfl⟩))
      go_ret
      exact ⟨ret_val (by rw [HL.out]; rfl), rfl⟩
    · by_cases c3 : e + ((q : Int) - 1023) < -1022
      · rw [if_neg (by rw [HE.out]; omega), if_neg (by rw [HE.out]; omega), if_pos (by rw [HE.out]; omega)] at HL
        go_enter Tryd.func55, Tryd.ntmps55
        go_wp2_with (first
          | (go_at_call 69; go_in)
          | (go_at_call 80; refine (HI.out _).mono ?_; rintro e w' ⟨rfl, rfl⟩)
          | (go_at_call 81; refine (HN.out _).mono ?_; rintro e w' ⟨rfl, rfl⟩)
          | (go_at_call 82; refine (HM.out _).mono ?_; rintro e w' ⟨rfl, rfl⟩))
        have hx : (bits .or .u64 (bits .andNot .u64 (r : Int) 9218868437227405312) ((e + ((q : Int) - 1023) + 53 + 1023) * 4503599627370496)).toNat = ldxS r e := by
          rw [HF.out, show (e + ((q : Int) - 1023) + 53 + 1023) * 4503599627370496 = (((e + (q : Int) - 1023 + 53 + 1023).toNat * 4503599627370496 : Nat) : Int) from by omega, HO.out _ (by omega), Int.toNat_natCast, HS.out, HE.out]
        rw [hx, run_float_arith _ .mul 28 .f64 _ _ _ (HV.out (by rw [HE.out]; omega) (by rw [HE.out]; omega))]
        clear hx
        go_wp2
        go_ret
        exact ⟨ret_val (by rw [HL.out]; rfl), rfl⟩
      · rw [if_neg (by rw [HE.out]; omega), if_neg (by rw [HE.out]; omega), if_neg (by rw [HE.out]; omega)] at HL
        go_enter Tryd.func55, Tryd.ntmps55
        go_wp2_with (first
          | (go_at_call 69; go_in)
          | (go_at_call 80; refine (HI.out _).mono ?_; rintro e w' ⟨rfl, rfl⟩)
          | (go_at_call 81; refine (HN.out _).mono ?_; rintro e w' ⟨rfl, rfl⟩)
          | (go_at_call 82; refine (HM.out _).mono ?_; rintro e w' ⟨rfl, rfl⟩))
        have hx : (bits .or .u64 (bits .andNot .u64 (r : Int) 9218868437227405312) ((e + ((q : Int) - 1023) + 1023) * 4503599627370496)).toNat = (ldxE r e + 1023).toNat * 4503599627370496 + f := by
          rw [HF.out, show (e + ((q : Int) - 1023) + 1023) * 4503599627370496 = (((ldxE r e + 1023).toNat * 4503599627370496 : Nat) : Int) from by rw [HE.out]; omega, HO.out _ (by rw [HE.out]; omega), Int.toNat_natCast]
        have hb : (ldxE r e + 1023).toNat * 4503599627370496 + f < 9218868437227405312 := by have := HFM.out; rw [HE.out]; omega
        rw [hx, run_float_arith _ .mul 28 .f64 _ _ _ (mul_one (show F64 _ from Nat.lt_trans hb (by omega)) (Nat.lt_of_le_of_lt (Nat.mod_le _ _) hb))]
        clear hx hb
        go_wp2
        go_ret
        exact ⟨ret_val (by rw [HL.out]; rfl), rfl⟩
end Go.Proofs.YtkcbkfflabkcgaaDoor
