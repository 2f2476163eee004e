/-
  Plain law: a float cut to a whole number, and when that lies within 64 bits. No program is in sight.
-/
import Derived.Test.YtbcgecenfedjdaaDoorFt
import Derived.Laws.FloatArith
namespace Go.Proofs.YtbcgecenfedjdaaDoor
open Go Ieee

def two (n : Nat) : Nat := 2 ^ n
theorem two_pos (n : Nat) : 0 < two n := Nat.two_pow_pos n
theorem two_split {n p : Nat} (h : p ≤ n) : two n = 2 ^ (n - p) * 2 ^ p := by unfold two; rw [← Nat.pow_add, show n - p + p = n from by omega]
theorem two_over {n p : Nat} (h : n ≤ p) : 2 ^ p = 2 ^ (p - n) * two n := by unfold two; rw [← Nat.pow_add, show p - n + n = p from by omega]
theorem two_join {n a b : Nat} (h : a + b = n) : 2 ^ a * 2 ^ b = two n := by unfold two; rw [← Nat.pow_add, h]
/-- how many least units make one -/
def top : Nat := two 1074
theorem top_pos : 0 < top := two_pos 1074
theorem top_split {p : Nat} (h : p ≤ 1074) : top = 2 ^ (1074 - p) * 2 ^ p := two_split h
theorem top_over {p : Nat} (h : 1074 ≤ p) : 2 ^ p = 2 ^ (p - 1074) * top := two_over h
theorem top_join {a b : Nat} (h : a + b = 1074) : 2 ^ a * 2 ^ b = top := two_join h
/-- the magnitude's whole number -/
def wholeM (r : Nat) : Nat := Fl.M r / top
def wholeI (b : Nat) : Int := if Fl.ng b then -(wholeM (Fl.rg b) : Int) else wholeM (Fl.rg b)

theorem cutz (s : Bool) (n d : Nat) : Toward.zero.cut s n d = n / 2 ^ d := by
  unfold Toward.cut
  simp only [Bool.toNat_false, Nat.add_zero]
  rw [Nat.shiftLeft_eq, Nat.one_mul]
  by_cases h : d ≤ n.log2 + 2
  · rw [Nat.min_eq_left h]
  · rw [Nat.min_eq_right (by omega)]
    have h1 : n < 2 ^ (n.log2 + 1) := Nat.lt_log2_self
    have h2 : n < 2 ^ (n.log2 + 2) := Nat.lt_of_lt_of_le h1 (Nat.pow_le_pow_right (by omega) (by omega))
    have h3 : n < 2 ^ d := Nat.lt_of_lt_of_le h1 (Nat.pow_le_pow_right (by omega) (by omega))
    rw [Nat.div_eq_of_lt h2, Nat.div_eq_of_lt h3]

theorem whole_cut (s : Bool) (r : Nat) : Toward.zero.cut s (Fl.mag r <<< (-1074 + (Fl.plc r : Int)).toNat) (-(-1074 + (Fl.plc r : Int))).toNat = wholeM r := by
  rw [cutz, Nat.shiftLeft_eq]
  unfold wholeM Fl.M
  generalize Fl.mag r = m
  generalize Fl.plc r = p
  by_cases h : p ≤ 1074
  · have e1 : (-1074 + (p : Int)).toNat = 0 := by omega
    have e2 : (-(-1074 + (p : Int))).toNat = 1074 - p := by omega
    rw [e1, e2, Nat.pow_zero, Nat.mul_one]
    rw [top_split h, Nat.mul_div_mul_right _ _ (Nat.two_pow_pos p)]
  · have e1 : (-1074 + (p : Int)).toNat = p - 1074 := by omega
    have e2 : (-(-1074 + (p : Int))).toNat = 0 := by omega
    rw [e1, e2, Nat.pow_zero, Nat.div_one]
    rw [top_over (p := p) (by omega), ← Nat.mul_assoc, Nat.mul_div_cancel _ top_pos]

theorem integral_fin {b : Nat} (h : Fl.rg b < 9218868437227405312) : (double.read b).integral .zero = .number (Fl.ng b) (wholeM (Fl.rg b)) 0 := by
  rw [Fl.read_fin h]; simp only [Datum.integral]; rw [whole_cut]
theorem toInt_fin {b : Nat} (h : Fl.rg b < 9218868437227405312) : (double.read b).toInt .zero = some (wholeI b) := by
  unfold Datum.toInt; rw [integral_fin h]
  simp only; unfold wholeI; rw [Fl.signed_eq, Nat.pow_zero, Nat.mul_one]

/-- a float cut to a whole number, as a float -/
def truncB (b : Nat) : Nat := double.nearest (Fl.ng b) (wholeM (Fl.rg b)) 0
theorem trunc_spec {b : Nat} (h : Fl.rg b < 9218868437227405312) :
    F64 (truncB b) ∧ Fl.ng (truncB b) = Fl.ng b ∧ Fl.rg (truncB b) < 9218868437227405312 ∧ Fl.M (Fl.rg (truncB b)) = wholeM (Fl.rg b) * top := by
  have key : ∀ q : Nat, q < 9218868437227405312 → truncB b = double.word (Fl.ng b) q → Fl.M q = wholeM (Fl.rg b) * top → F64 (truncB b) ∧ Fl.ng (truncB b) = Fl.ng b ∧ Fl.rg (truncB b) < 9218868437227405312 ∧ Fl.M (Fl.rg (truncB b)) = wholeM (Fl.rg b) * top := by
    intro q h1 h2 h3
    rw [h2, Fl.word_rg _ (by omega), Fl.word_ng _ (by omega)]
    exact ⟨Fl.word_lt _ (by omega), rfl, h1, h3⟩
  by_cases h0 : wholeM (Fl.rg b) = 0
  · refine key 0 (by omega) ?_ (by rw [h0, Fl.M_zero, Nat.zero_mul])
    unfold truncB; rw [h0, Fl.nearest_zero]
  · by_cases hp : 1074 ≤ Fl.plc (Fl.rg b)
    · have e3 := top_over hp
      have e4 : wholeM (Fl.rg b) = Fl.mag (Fl.rg b) * 2 ^ (Fl.plc (Fl.rg b) - 1074) := by
        unfold wholeM Fl.M; rw [e3, ← Nat.mul_assoc, Nat.mul_div_cancel _ top_pos]
      have hr : Fl.rg b ≠ 0 := by
        intro hz; rw [hz] at hp; exact absurd hp (by decide)
      have hl := Fl.log2_lt53 (mag_ne hr) (Fl.mag_lt _)
      have hpl := Fl.plc_le h
      refine key (Fl.rg b) h ?_ ?_
      · unfold truncB; rw [e4, nearest_shift, show (0 : Int) + ((Fl.plc (Fl.rg b) - 1074 : Nat) : Int) = -1074 + (Fl.plc (Fl.rg b) : Int) from by omega,
          Fl.nearest_fin _ (mag_ne hr) (Fl.mag_lt _) (by omega) (by omega), Fl.rungOf_self h hr]
      · rw [e4]; unfold Fl.M; rw [Nat.mul_assoc, ← e3]
    · have e3 := top_split (show Fl.plc (Fl.rg b) ≤ 1074 by omega)
      have e4 : wholeM (Fl.rg b) = Fl.mag (Fl.rg b) / 2 ^ (1074 - Fl.plc (Fl.rg b)) := by
        unfold wholeM Fl.M; rw [e3, Nat.mul_div_mul_right _ _ (Nat.two_pow_pos _)]
      have hlt : wholeM (Fl.rg b) < 9007199254740992 := by rw [e4]; exact Nat.lt_of_le_of_lt (Nat.div_le_self _ _) (Fl.mag_lt _)
      have hl := Fl.log2_lt53 h0 hlt
      obtain ⟨a1, a2⟩ := Fl.rungOf_spec (p := 0) h0 hlt (by omega)
      refine key (Fl.rungOf (wholeM (Fl.rg b)) 0) (Fl.rungOf_fin h0 hlt (by omega) (by omega)) ?_ ?_
      · unfold truncB; rw [Fl.nearest_fin _ h0 hlt (by omega) (by omega)]
      · unfold Fl.M
        have hla : Fl.lastOf (wholeM (Fl.rg b)) 0 ≤ 0 ∧ -1074 ≤ Fl.lastOf (wholeM (Fl.rg b)) 0 := by unfold Fl.lastOf; omega
        rw [a1, Nat.mul_assoc, top_join (by omega)]

theorem trunc_V {b : Nat} (h : Fl.rg b < 9218868437227405312) : Fl.V (truncB b) = wholeI b * (top : Int) := by
  obtain ⟨_, h2, _, h4⟩ := trunc_spec h
  rw [Fl.V_eq, h2, h4]
  unfold wholeI
  split
  · rw [Int.neg_mul, Int.natCast_mul (wholeM _)]
  · rw [Int.natCast_mul (wholeM _)]
theorem trunc_whole {b : Nat} (h : Fl.rg b < 9218868437227405312) : wholeI (truncB b) = wholeI b := by
  obtain ⟨_, h2, _, h4⟩ := trunc_spec h
  unfold wholeI
  have : wholeM (Fl.rg (truncB b)) = wholeM (Fl.rg b) := by
    rw [show wholeM (Fl.rg (truncB b)) = Fl.M (Fl.rg (truncB b)) / top from rfl, h4, Nat.mul_div_cancel _ top_pos]
  rw [h2, this]

theorem V_max : Fl.V 4890909195324358656 = 9223372036854775808 * (top : Int) := by decide +kernel
theorem V_min : Fl.V 14114281232179134464 = -9223372036854775808 * (top : Int) := by decide +kernel

/-- the whole number's bounds, by the floats' order -/
theorem below_max {b : Nat} (h : Fl.rg b < 9218868437227405312) : Fl.flt (truncB b) 4890909195324358656 = decide (wholeI b < 9223372036854775808) := by
  obtain ⟨_, _, h3, _⟩ := trunc_spec h
  have hn : Fl.isNaN (truncB b) = false := by unfold Fl.isNaN; simp; omega
  unfold Fl.flt
  rw [hn, show Fl.isNaN 4890909195324358656 = false from by decide]
  simp only [Bool.not_false, Bool.true_and]
  apply decide_eq_decide.2
  rw [← Fl.V_lt_iff, trunc_V h, V_max]
  have hp : (0 : Int) < (top : Int) := by have := top_pos; omega
  generalize (top : Int) = c at *
  constructor
  · intro g; exact Int.lt_of_mul_lt_mul_right g (Int.le_of_lt hp)
  · intro g; exact Int.mul_lt_mul_of_pos_right g hp
theorem above_min {b : Nat} (h : Fl.rg b < 9218868437227405312) : (double.order (truncB b) 14114281232179134464 == some .gt || double.order (truncB b) 14114281232179134464 == some .eq) = decide (-9223372036854775808 ≤ wholeI b) := by
  obtain ⟨_, _, h3, _⟩ := trunc_spec h
  have hn : Fl.isNaN (truncB b) = false := by unfold Fl.isNaN; simp; omega
  rw [Fl.order_gt, Fl.order_eq]
  unfold Fl.flt Fl.feq
  rw [hn, show Fl.isNaN 14114281232179134464 = false from by decide]
  simp only [Bool.not_false, Bool.true_and]
  rw [Bool.eq_iff_iff]
  simp only [Bool.or_eq_true, decide_eq_true_eq]
  rw [← Fl.V_lt_iff, ← Fl.V_eq_iff, trunc_V h, V_min]
  have hp : (0 : Int) < (top : Int) := by have := top_pos; omega
  generalize (top : Int) = c at *
  constructor
  · rintro (g | g)
    · have := Int.lt_of_mul_lt_mul_right g (Int.le_of_lt hp); omega
    · have := Int.eq_of_mul_eq_mul_right (by omega) g; omega
  · intro g
    rcases Int.lt_or_eq_of_le g with g | g
    · exact .inl (Int.mul_lt_mul_of_pos_right g hp)
    · exact .inr (by rw [← g])

/-- what ToInt gives -/
def toIntV (b : Nat) : Int := if Fl.rg b < 9218868437227405312 ∧ -9223372036854775808 ≤ wholeI b ∧ wholeI b < 9223372036854775808 then wholeI b else 0
def toIntE (b : Nat) : Int := if Fl.rg b < 9218868437227405312 ∧ -9223372036854775808 ≤ wholeI b ∧ wholeI b < 9223372036854775808 then 0 else 3

theorem conv_trunc {b : Nat} (h : Fl.rg b < 9218868437227405312) (h1 : -9223372036854775808 ≤ wholeI b) (h2 : wholeI b < 9223372036854775808) :
    floatToIntVal .f64 (truncB b) .i64 = some (wholeI b) := by
  obtain ⟨_, _, h3, _⟩ := trunc_spec h
  unfold floatToIntVal
  rw [show (FloatKind.f64.decode (truncB b)).toInt .zero = some (wholeI b) from by rw [← trunc_whole h]; exact toInt_fin h3]
  simp only
  rw [if_pos]
  constructor
  · simp [IntKind.min, IntKind.signed, IntKind.bits]; omega
  · simp [IntKind.max, IntKind.signed, IntKind.bits]; omega
end Go.Proofs.YtbcgecenfedjdaaDoor
