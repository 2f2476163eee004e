/-
  Plain law: a whole number cut to 53 binary digits, to the nearest, is the nearest float. No program is in sight.
-/
import Derived.Test.YtbcgecenfedjdaaDoorFq
import Derived.Test.YtbcgecenfedjdaaDoorFv
namespace Go.Proofs.YtbcgecenfedjdaaDoor
open Go Ieee

/-- the number that is kept of m where k binary digits fall away -/
def keptN (m k : Nat) : Nat := m / 2 ^ k + (if 1 ≤ k ∧ (2 ^ (k - 1) < m % 2 ^ k ∨ (m % 2 ^ k = 2 ^ (k - 1) ∧ m / 2 ^ k % 2 = 1)) then 1 else 0)

theorem exB_nearest (s : Bool) {n : Nat} (h : n ≤ 9007199254740992) {k : Int} (h1 : 0 ≤ k) (h2 : k ≤ 100) : exB s n k = double.nearest s n k := by
  unfold exB
  by_cases h0 : n = 0
  · rw [if_pos h0, h0, Fl.nearest_zero]
  · rw [if_neg h0]
    obtain ⟨ho, e⟩ := odd_spec h0 (show n < 18446744073709551616 by omega)
    have hle : odd n ≤ n := by
      have : odd n ≤ odd n * 2 ^ tz n := Nat.le_mul_of_pos_right _ (Nat.two_pow_pos _)
      rw [← e] at this; exact this
    have hlt : odd n < 9007199254740992 := by omega
    have htz : tz n ≤ 53 := by
      have h3 : 2 ^ tz n ≤ odd n * 2 ^ tz n := Nat.le_mul_of_pos_left _ (by omega)
      have h4 : 2 ^ tz n ≤ 2 ^ 53 := by rw [← e] at h3; omega
      exact (Nat.pow_le_pow_iff_right (by omega : 1 < 2)).1 h4
    have hl := Fl.log2_lt53 (show odd n ≠ 0 by omega) hlt
    have hr : rep (odd n) (k + tz n) := ⟨by omega, by omega⟩
    rw [if_pos hr]
    conv => rhs; rw [e, nearest_shift, Fl.nearest_fin s (by omega) hlt hr.1 hr.2]

theorem cut_even (s : Bool) (m k : Nat) (hk : 1 ≤ k) (hl : k ≤ m.log2 + 2) : Toward.even.cut s m k = keptN m k := by
  unfold Toward.cut keptN
  simp only [Nat.min_eq_left hl, Nat.shiftLeft_eq, Nat.one_mul]
  have e : 2 ^ k = 2 * 2 ^ (k - 1) := by
    conv => lhs; rw [show k = (k - 1) + 1 by omega, Nat.pow_succ, Nat.mul_comm]
  have hp := Nat.two_pow_pos (k - 1)
  congr 1
  by_cases h1 : 2 ^ (k - 1) < m % 2 ^ k
  · have : decide (2 ^ k < 2 * (m % 2 ^ k)) = true := by rw [decide_eq_true_eq]; omega
    rw [this, if_pos ⟨hk, .inl h1⟩]; rfl
  · have : decide (2 ^ k < 2 * (m % 2 ^ k)) = false := by rw [decide_eq_false_iff_not]; omega
    rw [this, Bool.false_or]
    by_cases h2 : m % 2 ^ k = 2 ^ (k - 1)
    · have e2 : (2 ^ k == 2 * (m % 2 ^ k)) = true := by rw [beq_iff_eq]; omega
      rw [e2, Bool.true_and]
      by_cases h3 : m / 2 ^ k % 2 = 1
      · rw [if_pos ⟨hk, .inr ⟨h2, h3⟩⟩, h3]; rfl
      · rw [if_neg (by rintro ⟨_, h | ⟨_, h⟩⟩; exact h1 h; exact h3 h), beq_eq_false_iff_ne.2 h3]; rfl
    · have e2 : (2 ^ k == 2 * (m % 2 ^ k)) = false := by rw [beq_eq_false_iff_ne]; omega
      rw [e2, Bool.false_and, if_neg (by rintro ⟨_, h | ⟨h, _⟩⟩; exact h1 h; exact h2 h)]; rfl

theorem kept_le {m k : Nat} (h : m / 2 ^ k < 9007199254740992) : keptN m k ≤ 9007199254740992 := by unfold keptN; split <;> omega
theorem kept_zero (m : Nat) : keptN m 0 = m := by unfold keptN; simp

/-- the nearest float of a whole number by the digits that are kept -/
theorem nearest_kept (s : Bool) {m k : Nat} (h : m / 2 ^ k < 9007199254740992) (h2 : k = 0 ∨ 9007199254740992 ≤ m / 2 ^ (k - 1)) (hk : k ≤ 11) : double.nearest s m 0 = double.nearest s (keptN m k) k := by
  rcases Nat.eq_zero_or_pos k with h0 | h0
  · subst h0; rw [kept_zero]; rfl
  · have h2' : 9007199254740992 ≤ m / 2 ^ (k - 1) := by rcases h2 with h | h <;> omega
    have hm0 : m ≠ 0 := by intro e; rw [e, Nat.zero_div] at h2'; omega
    have hlow : 2 ^ (52 + k) ≤ m := by
      have := (Nat.le_div_iff_mul_le (Nat.two_pow_pos (k - 1))).1 h2'
      rw [show (9007199254740992 : Nat) = 2 ^ 53 from rfl, ← Nat.pow_add, show 53 + (k - 1) = 52 + k by omega] at this
      exact this
    have hup : m < 2 ^ (53 + k) := by
      have := (Nat.div_lt_iff_lt_mul (Nat.two_pow_pos k)).1 h
      rw [show (9007199254740992 : Nat) = 2 ^ 53 from rfl, ← Nat.pow_add] at this
      exact this
    have hlog : m.log2 = 52 + k := by
      have a := (Nat.le_log2 hm0).2 hlow
      have b := (Nat.log2_lt hm0).2 hup
      omega
    have hx : 4503599627370496 ≤ m / 2 ^ k := by
      rw [Nat.le_div_iff_mul_le (Nat.two_pow_pos k), show (4503599627370496 : Nat) = 2 ^ 52 from rfl, ← Nat.pow_add]; exact hlow
    have hcut := cut_even s m k h0 (by omega)
    have hkl := kept_le h
    have hkg : m / 2 ^ k ≤ keptN m k := Nat.le_add_right _ _
    have lhs : double.nearest s m 0 = double.word s (min ((k + 1074) * 4503599627370496 + keptN m k) 9218868437227405312) := by
      unfold Format.nearest
      rw [if_neg hm0]
      simp only [Fl.lP, Fl.fB, Fl.bW, Fl.iR]
      have e : max ((0 : Int) + (m.log2 : Int) - ((52 : Nat) : Int)) (-1074) = k := by omega
      rw [e, show ((0 : Int) - (k : Int)).toNat = 0 by omega, show ((k : Int) - 0).toNat = k by omega, Nat.shiftLeft_zero, hcut, show ((k : Int) - -1074).toNat = k + 1074 by omega]
    rw [lhs]
    generalize keptN m k = x at *
    by_cases hxx : x < 9007199254740992
    · have hxl : x.log2 = 52 := by
        have a := (Nat.le_log2 (show x ≠ 0 by omega)).2 (show 2 ^ 52 ≤ x by omega)
        have b := (Nat.log2_lt (show x ≠ 0 by omega)).2 (show x < 2 ^ 53 by omega)
        omega
      rw [Fl.nearest_small s (by omega) hxx (by omega), hxl]
      rw [show max ((k : Int) + ((52 : Nat) : Int) - 52) (-1074) = k by omega, show ((k : Int) + 1074).toNat = k + 1074 by omega, show ((k : Int) - (k : Int)).toNat = 0 by omega, Nat.pow_zero, Nat.mul_one]
    · have : x = 1 * 2 ^ 53 := by omega
      rw [this, nearest_shift, Fl.nearest_small s (by omega) (by omega) (by omega)]
      rw [show (1 : Nat).log2 = 0 by decide, show max ((k : Int) + ((53 : Nat) : Int) + ((0 : Nat) : Int) - 52) (-1074) = k + 1 by omega, show ((k : Int) + 1 + 1074).toNat = k + 1 + 1074 by omega, show ((k : Int) + ((53 : Nat) : Int) - ((k : Int) + 1)).toNat = 52 by omega]
      rw [show (k + 1 + 1074) * 4503599627370496 + 1 * 2 ^ 52 = (k + 1074) * 4503599627370496 + 1 * 2 ^ 53 by omega]
theorem made_kept (s : Bool) {m k : Nat} (h : m / 2 ^ k < 9007199254740992) (h2 : k = 0 ∨ 9007199254740992 ≤ m / 2 ^ (k - 1)) (hk : k ≤ 11) : exB s (keptN m k) k = double.nearest s m 0 := by
  rw [nearest_kept s h h2 hk, exB_nearest s (kept_le h) (by omega) (by omega)]
end Go.Proofs.YtbcgecenfedjdaaDoor
