/-
  The walk of the references' made: a sign, a number and a power as a float.
-/
import Derived.Test.YtkcbkfflabkcgaaDoorR1
import Derived.Test.YtkcbkfflabkcgaaDoorFq
namespace Go.Proofs.YtkcbkfflabkcgaaDoor
open Go.RowKit Ieee

def madeV (neg : Bool) (m : Nat) (e : Int) : Nat := if 9007199254740992 < m then 0 else exB neg m e
def madeE (m : Nat) (e : Int) : Int := if 9007199254740992 < m then 3 else exE m e

/-- the loop that doubles: where it ends -/
theorem double_end {o t : Nat} {e : Int} (ho : o ≠ 0) (hl : o < 9007199254740992) (ht : (t : Int) ≤ e + 1074) (hlog : t + o.log2 ≤ 52) (hend : 4503599627370496 ≤ o * 2 ^ t ∨ e - t = -1074) :
    Fl.lastOf o e = e - t ∧ Fl.rungOf o e = (e - t + 1074).toNat * 4503599627370496 + o * 2 ^ t ∧ (o * 2 ^ t < 4503599627370496 → e - t = -1074) ∧ (e - t + 1075 ≤ 2046 ↔ e + o.log2 ≤ 1023) := by
  have h52 := Fl.log2_lt53 ho hl
  have hup : o * 2 ^ t < 2 ^ (o.log2 + 1 + t) := by
    rw [Nat.pow_add]; exact Nat.mul_lt_mul_of_pos_right Nat.lt_log2_self (Nat.two_pow_pos t)
  have hla : Fl.lastOf o e = e - t := by
    unfold Fl.lastOf
    rcases hend with h | h
    · have : 2 ^ 52 < 2 ^ (o.log2 + 1 + t) := Nat.lt_of_le_of_lt (by simpa using h) hup
      have := (Nat.pow_lt_pow_iff_right (by omega : 1 < 2)).1 this
      omega
    · omega
  refine ⟨hla, ?_, ?_, ?_⟩
  · unfold Fl.rungOf; rw [hla, show (e - (e - (t : Int))).toNat = t from by omega]
  · intro h; rcases hend with g | g
    · omega
    · exact g
  · rcases hend with h | h
    · have : 2 ^ 52 < 2 ^ (o.log2 + 1 + t) := Nat.lt_of_le_of_lt (by simpa using h) hup
      have := (Nat.pow_lt_pow_iff_right (by omega : 1 < 2)).1 this
      omega
    · omega
theorem double_log {o t : Nat} (ho : o ≠ 0) (h : o * 2 ^ t < 4503599627370496) : t + 1 + o.log2 ≤ 52 := by
  have h1 : 2 ^ o.log2 ≤ o := Nat.log2_self_le ho
  have h2 : 2 ^ (o.log2 + t) ≤ o * 2 ^ t := by rw [Nat.pow_add]; exact Nat.mul_le_mul_right _ h1
  have h3 : 2 ^ (o.log2 + t) < 2 ^ 52 := by omega
  have := (Nat.pow_lt_pow_iff_right (by omega : 1 < 2)).1 h3
  omega
theorem double_step {o t m : Nat} (h : Hid (m = o * 2 ^ t)) : Hid (m * 2 = o * 2 ^ (t + 1)) := by
  show _ = _
  rw [h.out, Nat.pow_succ, Nat.mul_assoc]

theorem made_tup (a b : Nat) (h : a = b) : Value.tuple #[.float .f64 a, .int .i64 0] = .tuple #[.float .f64 b, .int .i64 0] := by rw [h]
theorem word_true (r : Nat) : double.word true r = r + 9223372036854775808 := by rw [Fl.word_eq, if_pos rfl, Nat.add_comm]
theorem made_not (o : Nat) (e : Int) (h : e < -1074) : ¬ rep o e := fun r => by have := r.1; omega
/-- what the code has at the end of the doubling, in its own words -/
theorem made_end {o t m : Nat} {e : Int} (ho : o ≠ 0) (hl : o < 9007199254740992) (hm : m = o * 2 ^ t) (ht : t = 0 ∨ (t : Int) ≤ e + 1074) (h1 : -1074 ≤ e) (hlog : t + o.log2 ≤ 52) (hend : 4503599627370496 ≤ m ∨ e - t = -1074) :
    m < 9007199254740992 ∧ -1074 ≤ e - t ∧ (m < 4503599627370496 → e - t = -1074) ∧ (e - t + 1075 ≤ 2046 ↔ rep o e) ∧
    (e - t + 1075 ≤ 2046 → (m < 4503599627370496 → Fl.rungOf o e = m) ∧ (4503599627370496 ≤ m → Fl.rungOf o e = (m - 4503599627370496) + (e - t + 1075).toNat * 4503599627370496)) := by
  have ht' : (t : Int) ≤ e + 1074 := by rcases ht with h | h <;> omega
  subst hm
  obtain ⟨a, b, c, d⟩ := double_end ho hl ht' hlog hend
  have hup : o * 2 ^ t < 2 ^ (o.log2 + 1 + t) := by
    rw [Nat.pow_add]; exact Nat.mul_lt_mul_of_pos_right Nat.lt_log2_self (Nat.two_pow_pos t)
  have h53 : 2 ^ (o.log2 + 1 + t) ≤ 2 ^ 53 := Nat.pow_le_pow_right (by omega) (by omega)
  refine ⟨by omega, by omega, c, ?_, ?_⟩
  · rw [d]; unfold rep; omega
  · intro hr
    rw [b]
    constructor
    · intro h; have := c h; omega
    · intro h; omega

end Go.Proofs.YtkcbkfflabkcgaaDoor
