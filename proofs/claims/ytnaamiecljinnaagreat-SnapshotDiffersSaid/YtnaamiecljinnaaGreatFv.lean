/-
  Plain law: what the nearest float of a number is where a float is that number, the value of a float as a whole number of least units, and odd parts. No program is in sight.
-/
import Derived.Test.YtnaamiecljinnaaGreatFa
namespace Go.Proofs.YtnaamiecljinnaaGreat
open Ieee

theorem log2_shift {m : Nat} (h0 : m ≠ 0) (k : Nat) : (m * 2 ^ k).log2 = m.log2 + k := by
  have h1 : 2 ^ m.log2 ≤ m := Nat.log2_self_le h0
  have h2 : m < 2 ^ (m.log2 + 1) := Nat.lt_log2_self
  have hp := Nat.two_pow_pos k
  have n0 : m * 2 ^ k ≠ 0 := Nat.mul_ne_zero h0 (by omega)
  apply Nat.le_antisymm
  · have : (m * 2 ^ k).log2 < m.log2 + k + 1 := by
      rw [Nat.log2_lt n0, show m.log2 + k + 1 = (m.log2 + 1) + k from by omega, Nat.pow_add]
      exact Nat.mul_lt_mul_of_pos_right h2 hp
    omega
  · rw [Nat.le_log2 n0, Nat.pow_add]; exact Nat.mul_le_mul_right _ h1

/-- of a number and its shift, cut so much further, the same is left -/
theorem cut_shift (s : Bool) (n d k : Nat) (h0 : n ≠ 0) : Toward.even.cut s (n * 2 ^ k) (d + k) = Toward.even.cut s n d := by
  unfold Toward.cut
  have hp := Nat.two_pow_pos k
  have e1 : (1 <<< min (d + k) ((n * 2 ^ k).log2 + 2)) = (1 <<< min d (n.log2 + 2)) * 2 ^ k := by
    rw [log2_shift h0, show min (d + k) (n.log2 + k + 2) = min d (n.log2 + 2) + k from by omega, Nat.shiftLeft_eq, Nat.shiftLeft_eq, Nat.one_mul, Nat.one_mul, Nat.pow_add]
  simp only [e1]
  generalize 1 <<< min d (n.log2 + 2) = g
  rw [Nat.mul_div_mul_right _ _ hp, Nat.mul_mod_mul_right]
  have e2 : (g * 2 ^ k < 2 * (n % g * 2 ^ k)) = (g < 2 * (n % g)) := by
    apply propext; rw [← Nat.mul_assoc]; exact Nat.mul_lt_mul_right hp
  have e3 : (g * 2 ^ k == 2 * (n % g * 2 ^ k)) = (g == 2 * (n % g)) := by
    rw [← Nat.mul_assoc, Bool.eq_iff_iff]; simp only [beq_iff_eq]
    exact Nat.mul_left_inj (by omega)
  simp only [e2, e3]

theorem cut_exact (s : Bool) (n d : Nat) (h0 : n ≠ 0) : Toward.even.cut s (n * 2 ^ d) d = n := by
  have := cut_shift s n 0 d h0
  rw [Nat.zero_add] at this
  rw [this, Fl.cut0]

/-- the nearest float goes by the number alone -/
theorem nearest_shift (s : Bool) (m k : Nat) (p : Int) : double.nearest s (m * 2 ^ k) p = double.nearest s m (p + k) := by
  by_cases h0 : m = 0
  · subst h0; rw [Nat.zero_mul, Fl.nearest_zero, Fl.nearest_zero]
  · have n0 : m * 2 ^ k ≠ 0 := Nat.mul_ne_zero h0 (by have := Nat.two_pow_pos k; omega)
    unfold Format.nearest
    rw [if_neg h0, if_neg n0, log2_shift h0]
    simp only [Fl.lP, Fl.fB, Fl.bW, Fl.iR]
    have e : max (p + ((m.log2 + k : Nat) : Int) - ((52 : Nat) : Int)) (-1074) = max (p + (k : Int) + (m.log2 : Int) - ((52 : Nat) : Int)) (-1074) := by omega
    rw [e]
    generalize max (p + (k : Int) + (m.log2 : Int) - ((52 : Nat) : Int)) (-1074) = l
    congr 2
    congr 1
    rw [Nat.shiftLeft_eq, Nat.shiftLeft_eq]
    by_cases c1 : l ≤ p
    · have f1 : (l - p).toNat = 0 := by omega
      have f2 : (l - (p + k)).toNat = 0 := by omega
      rw [f1, f2, Fl.cut0, Fl.cut0, show (p + (k : Int) - l).toNat = k + (p - l).toNat from by omega, Nat.pow_add, Nat.mul_assoc]
    · by_cases c2 : p + k ≤ l
      · have f1 : (l - p).toNat = (l - (p + k)).toNat + k := by omega
        have f2 : (p - l).toNat = 0 := by omega
        have f3 : (p + (k : Int) - l).toNat = 0 := by omega
        rw [f1, f2, f3, Nat.pow_zero, Nat.mul_one, Nat.mul_one, cut_shift s m _ k h0]
      · have f2 : (p - l).toNat = 0 := by omega
        have f3 : (l - (p + k)).toNat = 0 := by omega
        rw [f2, f3, Nat.pow_zero, Nat.mul_one, Fl.cut0]
        have hk : k = (p + (k : Int) - l).toNat + (l - p).toNat := by omega
        have n1 : m * 2 ^ (p + (k : Int) - l).toNat ≠ 0 := Nat.mul_ne_zero h0 (by have := Nat.two_pow_pos (p + (k : Int) - l).toNat; omega)
        have hx := cut_exact s (m * 2 ^ (p + (k : Int) - l).toNat) (l - p).toNat n1
        rw [Nat.mul_assoc, ← Nat.pow_add, ← hk] at hx
        exact hx
end Go.Proofs.YtnaamiecljinnaaGreat
