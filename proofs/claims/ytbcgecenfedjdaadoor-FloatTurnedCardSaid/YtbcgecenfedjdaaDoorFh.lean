/-
  Plain law: half of a float is it by two. No program is in sight.
-/
import Derived.Test.YtbcgecenfedjdaaDoorFt
namespace Go.Proofs.YtbcgecenfedjdaaDoor
open Ieee

theorem half_two (a : Nat) : mulB a 4602678819172646912 = divB a 4611686018427387904 := by
  by_cases hn : Fl.isNaN a = true
  · have hn2 := hn
    unfold Fl.isNaN at hn2; simp only [decide_eq_true_eq] at hn2
    rw [mul_nan_left _ hn]
    unfold divB Format.div; rw [Fl.read_nan hn2]; rfl
  · have hle := nan_lt (show Fl.isNaN a = false by simpa using hn)
    have e1 : double.read 4602678819172646912 = .number false 4503599627370496 (-53) := by decide
    have e2 : double.read 4611686018427387904 = .number false 4503599627370496 (-51) := by decide
    unfold mulB divB Format.mul Format.div
    rw [e1, e2]
    by_cases hi : Fl.rg a = 9218868437227405312
    · rw [Fl.read_inf hi]; rfl
    · rw [Fl.read_fin (show Fl.rg a < 9218868437227405312 by omega)]
      simp only [Datum.product, Datum.quotient, Bool.xor_false]
      rw [if_neg (by omega)]
      congr 1
      simp only [Option.map_some, Format.write]
      congr 1
      have hm := Fl.mag_lt (Fl.rg a)
      generalize Fl.mag (Fl.rg a) = m at *
      generalize -1074 + (Fl.plc (Fl.rg a) : Int) = p
      have hl : m.log2 ≤ 52 := by
        by_cases h0 : m = 0
        · subst h0; decide
        · exact Fl.log2_lt53 h0 hm
      have hf : double.fractionBits + 2 + Nat.log2 4503599627370496 - m.log2 = (54 - m.log2) + 52 := by
        rw [show double.fractionBits = 52 from rfl, show Nat.log2 4503599627370496 = 52 from by decide]; omega
      rw [hf, Nat.shiftLeft_eq, Nat.pow_add, ← Nat.mul_assoc, show (2 : Nat) ^ 52 = 4503599627370496 from rfl, Nat.mul_div_cancel _ (by omega), Nat.mul_mod_left]
      have : ((0 : Nat) != 0).toNat = 0 := rfl
      rw [this, Nat.add_zero, Nat.mul_comm 2, Nat.mul_assoc, ← Nat.pow_succ, nearest_shift, show (4503599627370496 : Nat) = 2 ^ 52 from rfl, nearest_shift]
      congr 1
      omega
end Go.Proofs.YtbcgecenfedjdaaDoor
