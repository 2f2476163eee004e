/-
  Plain law: Go's bit operations on a float's word: the sign struck, the exponent's field read, struck and laid anew. No program is in sight.
-/
import Derived.Test.YtnaamiecljinnaaGreatFv
import Derived.Laws.Bits64b
namespace Go.Proofs.YtnaamiecljinnaaGreat

theorem bits_andNot_u64_nat (a b : Nat) (ha : a < 18446744073709551616) (hb : b < 18446744073709551616) :
    bits .andNot .u64 (a : Int) (b : Int) = ((a &&& (18446744073709551615 - b) : Nat) : Int) := by
  have hx : a &&& (18446744073709551615 - b) < 2 ^ 64 := Nat.lt_of_le_of_lt Nat.and_le_left (by omega)
  have h1 : (BitVec.ofInt 64 (a : Int)).toNat = a := by
    rw [BitVec.ofInt_natCast, BitVec.toNat_ofNat]; exact Nat.mod_eq_of_lt (by omega)
  have h2 : (BitVec.ofInt 64 (b : Int)).toNat = b := by
    rw [BitVec.ofInt_natCast, BitVec.toNat_ofNat]; exact Nat.mod_eq_of_lt (by omega)
  show IntKind.u64.wrap ((BitVec.ofInt 64 (a : Int) &&& ~~~BitVec.ofInt 64 (b : Int)).toNat : Int) = _
  rw [BitVec.toNat_and, BitVec.toNat_not, h1, h2, IntKind.wrap_u64]
  have : 2 ^ 64 - 1 - b = 18446744073709551615 - b := by omega
  rw [this]
  omega

theorem abs_bits {b : Nat} (hb : F64 b) : bits .andNot .u64 (b : Int) 9223372036854775808 = ((Fl.rg b : Nat) : Int) := by
  have := bits_andNot_u64_nat b 9223372036854775808 hb (by omega)
  rw [show ((9223372036854775808 : Nat) : Int) = 9223372036854775808 from rfl] at this
  rw [this]
  congr 1
  exact Nat.and_two_pow_sub_one_eq_mod b 63

theorem field_and (x : Nat) (h : x < 4096) : bits .and .u64 (x : Int) 2047 = ((x % 2048 : Nat) : Int) := by
  have := bits_and_u64_nat x 2047 (by omega) (by omega)
  rw [show ((2047 : Nat) : Int) = 2047 from rfl] at this
  rw [this]
  congr 1
  exact Nat.and_two_pow_sub_one_eq_mod x 11
theorem field_and_i (x : Nat) (h : x < 4096) : bits .and .i64 (x : Int) 2047 = ((x % 2048 : Nat) : Int) := by
  have h1 : (BitVec.ofInt 64 (x : Int)).toNat = x := by
    rw [BitVec.ofInt_natCast, BitVec.toNat_ofNat]; exact Nat.mod_eq_of_lt (by omega)
  have h2 : (BitVec.ofInt 64 ((2047 : Nat) : Int)).toNat = 2047 := by decide
  show IntKind.i64.wrap ((BitVec.ofInt 64 (x : Int) &&& BitVec.ofInt 64 ((2047 : Nat) : Int)).toNat : Int) = _
  rw [BitVec.toNat_and, h1, h2, show x &&& 2047 = x % 2048 from Nat.and_two_pow_sub_one_eq_mod x 11, IntWalk.i64_in _ (by omega)]

theorem frac_bits {r : Nat} (h : r < 9223372036854775808) : bits .andNot .u64 (r : Int) 9218868437227405312 = ((r % 4503599627370496 : Nat) : Int) := by
  have := bits_andNot_u64_nat r 9218868437227405312 (by omega) (by omega)
  rw [show ((9218868437227405312 : Nat) : Int) = 9218868437227405312 from rfl] at this
  rw [this]
  congr 1
  apply Nat.eq_of_testBit_eq
  intro i
  rw [Nat.testBit_and, show (4503599627370496 : Nat) = 2 ^ 52 from rfl, Nat.testBit_mod_two_pow, show 18446744073709551615 - 9218868437227405312 = 2 ^ 63 + (2 ^ 52 - 1) from by decide]
  rcases Nat.lt_trichotomy i 63 with g | g | g
  · rw [Nat.testBit_two_pow_add_gt g, Nat.testBit_two_pow_sub_one, Bool.and_comm]
  · subst g
    rw [Nat.testBit_lt_two_pow (show r < 2 ^ 63 from h)]; simp
  · rw [Nat.testBit_lt_two_pow (show r < 2 ^ i from Nat.lt_of_lt_of_le (show r < 2 ^ 63 from h) (Nat.pow_le_pow_right (by omega) (by omega)))]; simp

theorem or_field {f c : Nat} (hf : f < 4503599627370496) (hc : c < 2048) : bits .or .u64 (f : Int) (((c * 4503599627370496 : Nat)) : Int) = ((c * 4503599627370496 + f : Nat) : Int) := by
  rw [bits_or_u64_nat f (c * 4503599627370496) (by omega) (by omega)]
  congr 1
  have := Nat.shiftLeft_add_eq_or_of_lt (i := 52) (b := f) (by simpa using hf) c
  rw [Nat.shiftLeft_eq] at this
  rw [Nat.or_comm]
  exact this.symm
end Go.Proofs.YtnaamiecljinnaaGreat
