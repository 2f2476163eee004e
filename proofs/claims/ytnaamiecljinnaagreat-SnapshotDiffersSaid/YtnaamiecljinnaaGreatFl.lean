/-
  Plain law: what a word of IEEE 754's double format stands for, its rung and its place in the row of numbers, the nearest float of a number of at most 53 binary digits, and the order. No program is in sight.
-/
import Ieee.Arith
import Derived.Laws.FloatBits
namespace Go.Proofs.YtnaamiecljinnaaGreat
namespace Fl
open Ieee

theorem sW : double.signWeight = 9223372036854775808 := by decide
theorem bW : double.binade = 4503599627370496 := by decide
theorem iR : double.infRung = 9218868437227405312 := by decide
theorem lP : double.leastPlace = -1074 := by decide
theorem fB : double.fractionBits = 52 := rfl

/-- the magnitude's two parts, of a rung -/
def mag (r : Nat) : Nat := if r < 4503599627370496 then r else 4503599627370496 + r % 4503599627370496
def plc (r : Nat) : Nat := if r < 4503599627370496 then 0 else r / 4503599627370496 - 1
def ng (b : Nat) : Bool := b / 9223372036854775808 % 2 == 1
def rg (b : Nat) : Nat := b % 9223372036854775808

theorem read_fin {b : Nat} (h : rg b < 9218868437227405312) : double.read b = .number (ng b) (mag (rg b)) (-1074 + (plc (rg b) : Int)) := by
  unfold rg at h
  unfold Format.read mag plc ng rg
  simp only [sW, bW, iR, lP]
  split
  · simp
  · simp
theorem read_inf {b : Nat} (h : rg b = 9218868437227405312) : double.read b = .infinity (ng b) := by
  unfold rg at h
  unfold Format.read ng
  simp only [sW, bW, iR, lP, h]
  simp
theorem read_nan {b : Nat} (h : 9218868437227405312 < rg b) : double.read b = .nan (ng b) (rg b - 9218868437227405312) := by
  unfold rg at h
  unfold Format.read ng rg
  simp only [sW, bW, iR, lP]
  rw [if_neg (by omega), if_neg (by omega), if_neg (by omega)]

theorem mag_lt (r : Nat) : mag r < 9007199254740992 := by unfold mag; split <;> omega
theorem plc_le {r : Nat} (h : r < 9218868437227405312) : plc r ≤ 2045 := by unfold plc; split <;> omega
/-- the magnitude as a whole number of least units -/
def M (r : Nat) : Nat := mag r * 2 ^ plc r
theorem mag_norm {r : Nat} (h : 0 < plc r) : 4503599627370496 ≤ mag r := by
  unfold plc at h; unfold mag; split at h
  · omega
  · rw [if_neg (by omega)]; omega
theorem rung_eq (r : Nat) : r = plc r * 4503599627370496 + mag r := by
  unfold plc mag; split
  · omega
  · omega
theorem M_mono {r s : Nat} (h : r < s) : M r < M s := by
  unfold M
  have e1 := rung_eq r; have e2 := rung_eq s
  have m1 := mag_lt r; have m2 := mag_lt s
  by_cases hp : plc r = plc s
  · rw [hp]; exact Nat.mul_lt_mul_of_pos_right (by omega) (Nat.two_pow_pos _)
  · have hlt : plc r < plc s := by
      by_cases g : 0 < plc r
      · have := mag_norm g; omega
      · omega
    have hm := mag_norm (show 0 < plc s by omega)
    obtain ⟨d, hd⟩ : ∃ d, plc s = plc r + 1 + d := ⟨plc s - plc r - 1, by omega⟩
    rw [hd, Nat.pow_add, Nat.pow_succ]
    have hp := Nat.two_pow_pos (plc r)
    have hd := Nat.two_pow_pos d
    calc mag r * 2 ^ plc r < 9007199254740992 * 2 ^ plc r := Nat.mul_lt_mul_of_pos_right m1 hp
      _ ≤ mag s * (2 ^ plc r * 2) := by
        rw [Nat.mul_comm (2 ^ plc r) 2, ← Nat.mul_assoc]; exact Nat.mul_le_mul_right _ (by omega)
      _ ≤ mag s * (2 ^ plc r * 2 * 2 ^ d) := Nat.mul_le_mul_left _ (Nat.le_mul_of_pos_right _ hd)
theorem M_inj {r s : Nat} (h : M r = M s) : r = s := by
  rcases Nat.lt_trichotomy r s with g | g | g
  · have := M_mono g; omega
  · exact g
  · have := M_mono g; omega
theorem M_lt_iff {r s : Nat} : M r < M s ↔ r < s := by
  constructor
  · intro h; rcases Nat.lt_trichotomy r s with g | g | g
    · exact g
    · subst g; omega
    · have := M_mono g; omega
  · exact M_mono
theorem M_zero : M 0 = 0 := by decide

theorem cut0 (way : Toward) (s : Bool) (n : Nat) : way.cut s n 0 = n := by
  unfold Toward.cut
  have : 1 <<< min 0 (n.log2 + 2) = 1 := by simp
  simp only [this, Nat.div_one, Nat.mod_one]
  cases way <;> simp

theorem word_eq (s : Bool) (r : Nat) : double.word s r = if s then 9223372036854775808 + r else r := by
  unfold Format.word; rw [sW]

theorem log2_lt53 {m : Nat} (h0 : m ≠ 0) (h : m < 9007199254740992) : m.log2 ≤ 52 := by
  have : m.log2 < 53 := (Nat.log2_lt h0).2 (by simpa using h)
  omega

/-- the nearest float of a number of at most 53 binary digits at a place that is not too low: exact, but for what is too great -/
theorem nearest_small {m : Nat} {p : Int} (s : Bool) (h0 : m ≠ 0) (h : m < 9007199254740992) (hp : -1074 ≤ p) :
    double.nearest s m p = double.word s (min ((max (p + m.log2 - 52) (-1074) + 1074).toNat * 4503599627370496 + m * 2 ^ (p - max (p + m.log2 - 52) (-1074)).toNat) 9218868437227405312) := by
  have hl := log2_lt53 h0 h
  unfold Format.nearest
  rw [if_neg h0]
  simp only [lP, fB, bW, iR]
  have e1 : (max (p + (m.log2 : Int) - ((52 : Nat) : Int)) (-1074) - p).toNat = 0 := by omega
  have e2 : (max (p + (m.log2 : Int) - ((52 : Nat) : Int)) (-1074) - -1074).toNat = (max (p + m.log2 - 52) (-1074) + 1074).toNat := by omega
  rw [e1, cut0, e2, Nat.shiftLeft_eq]
  rfl

/-- the normal parts of a number: its greatest place, and its magnitude there -/
def lastOf (m : Nat) (p : Int) : Int := max (p + m.log2 - 52) (-1074)

theorem pow_log {m : Nat} (h0 : m ≠ 0) (h : m < 9007199254740992) (k : Nat) (hk : k ≤ 52 - m.log2) : m * 2 ^ k < 9007199254740992 := by
  have hl := log2_lt53 h0 h
  have h1 : m < 2 ^ (m.log2 + 1) := Nat.lt_log2_self
  calc m * 2 ^ k < 2 ^ (m.log2 + 1) * 2 ^ k := Nat.mul_lt_mul_of_pos_right h1 (Nat.two_pow_pos _)
    _ = 2 ^ (m.log2 + 1 + k) := by rw [← Nat.pow_add]
    _ ≤ 2 ^ 53 := Nat.pow_le_pow_right (by omega) (by omega)
theorem pow_log_ge {m : Nat} (h0 : m ≠ 0) (h : m < 9007199254740992) : 4503599627370496 ≤ m * 2 ^ (52 - m.log2) := by
  have hl := log2_lt53 h0 h
  have h1 : 2 ^ m.log2 ≤ m := Nat.log2_self_le h0
  calc 4503599627370496 = 2 ^ (m.log2 + (52 - m.log2)) := by rw [show m.log2 + (52 - m.log2) = 52 from by omega]
    _ = 2 ^ m.log2 * 2 ^ (52 - m.log2) := Nat.pow_add ..
    _ ≤ m * 2 ^ (52 - m.log2) := Nat.mul_le_mul_right _ h1

/-- the rung of such a number -/
def rungOf (m : Nat) (p : Int) : Nat := (lastOf m p + 1074).toNat * 4503599627370496 + m * 2 ^ (p - lastOf m p).toNat

theorem rungOf_spec {m : Nat} {p : Int} (h0 : m ≠ 0) (h : m < 9007199254740992) (_hp : -1074 ≤ p) :
    mag (rungOf m p) = m * 2 ^ (p - lastOf m p).toNat ∧ (plc (rungOf m p) : Int) = lastOf m p + 1074 := by
  have hl := log2_lt53 h0 h
  have hk : (p - lastOf m p).toNat ≤ 52 - m.log2 := by unfold lastOf; omega
  have hlt := pow_log h0 h _ hk
  by_cases hc : lastOf m p = -1074
  · have e : rungOf m p = m * 2 ^ (p - lastOf m p).toNat := by unfold rungOf; rw [hc]; simp
    rw [e]
    generalize m * 2 ^ (p - lastOf m p).toNat = x at *
    unfold mag plc
    constructor
    · split <;> omega
    · rw [hc]; split <;> omega
  · have hd : (p - lastOf m p).toNat = 52 - m.log2 := by unfold lastOf at *; omega
    have hge := pow_log_ge h0 h
    rw [← hd] at hge
    have hpos : 0 < lastOf m p + 1074 := by unfold lastOf at *; omega
    unfold rungOf
    generalize m * 2 ^ (p - lastOf m p).toNat = x at *
    generalize hq : (lastOf m p + 1074).toNat = q at *
    unfold mag plc
    rw [if_neg (by omega), if_neg (by omega)]
    omega

theorem rungOf_fin {m : Nat} {p : Int} (h0 : m ≠ 0) (h : m < 9007199254740992) (_hp : -1074 ≤ p) (hq : p + m.log2 ≤ 1023) : rungOf m p < 9218868437227405312 := by
  have hl := log2_lt53 h0 h
  have hk : (p - lastOf m p).toNat ≤ 52 - m.log2 := by unfold lastOf; omega
  have hlt := pow_log h0 h _ hk
  have : lastOf m p ≤ 971 := by unfold lastOf; omega
  unfold rungOf
  generalize m * 2 ^ (p - lastOf m p).toNat = x at *
  omega

/-- what is read of the nearest float of a number that a float is: the number -/
theorem nearest_fin {m : Nat} {p : Int} (s : Bool) (h0 : m ≠ 0) (h : m < 9007199254740992) (hp : -1074 ≤ p) (hq : p + m.log2 ≤ 1023) :
    double.nearest s m p = double.word s (rungOf m p) := by
  rw [nearest_small s h0 h hp]
  have := rungOf_fin h0 h hp hq
  unfold rungOf at *
  unfold lastOf at *
  rw [Nat.min_eq_left (by omega)]

theorem nearest_zero (s : Bool) (p : Int) : double.nearest s 0 p = double.word s 0 := by
  unfold Format.nearest; simp

theorem word_rg (s : Bool) {r : Nat} (h : r < 9223372036854775808) : rg (double.word s r) = r := by
  rw [word_eq]; unfold rg; split <;> omega
theorem word_ng (s : Bool) {r : Nat} (h : r < 9223372036854775808) : ng (double.word s r) = s := by
  rw [word_eq]; unfold ng; cases s <;> simp <;> omega
theorem word_of {b : Nat} (h : b < 18446744073709551616) : double.word (ng b) (rg b) = b := by
  rw [word_eq]; unfold ng rg; by_cases g : b / 9223372036854775808 % 2 = 1
  · simp [g]; omega
  · simp [g]; omega
theorem word_lt (s : Bool) {r : Nat} (h : r < 9223372036854775808) : double.word s r < 18446744073709551616 := by
  rw [word_eq]; cases s <;> simp <;> omega

/-- a finite float's parts, rounded: the float -/
theorem rungOf_self {r : Nat} (_h : r < 9218868437227405312) (h0 : r ≠ 0) : rungOf (mag r) (-1074 + (plc r : Int)) = r := by
  have e := rung_eq r
  have ml := mag_lt r
  have m0 : mag r ≠ 0 := by
    intro hm
    by_cases g : 0 < plc r
    · have := mag_norm g; omega
    · omega
  have hl := log2_lt53 m0 ml
  by_cases g : 0 < plc r
  · have hn := mag_norm g
    have hlg : (mag r).log2 = 52 := by
      have : 52 ≤ (mag r).log2 := (Nat.le_log2 m0).2 (by simpa using hn)
      omega
    unfold rungOf lastOf
    rw [hlg]
    have : max (-1074 + (plc r : Int) + (52 : Nat) - 52) (-1074) = -1074 + (plc r : Int) := by omega
    rw [this]
    have e1 : (-1074 + (plc r : Int) + 1074).toNat = plc r := by omega
    have e2 : (-1074 + (plc r : Int) - (-1074 + (plc r : Int))).toNat = 0 := by omega
    rw [e1, e2]; omega
  · have g0 : plc r = 0 := by omega
    unfold rungOf lastOf
    rw [g0]
    have : max (-1074 + ((0 : Nat) : Int) + ((mag r).log2 : Int) - 52) (-1074) = -1074 := by omega
    rw [this]
    simp
    omega

/-- the place of a float in the row of numbers; the two zeros have one -/
def K (b : Nat) : Int := if ng b then -(rg b : Int) else rg b
def isNaN (b : Nat) : Bool := decide (9218868437227405312 < rg b)

theorem cmp_int (x y : Int) : compare x y = if x < y then .lt else if x = y then .eq else .gt := rfl

theorem signed_eq (s : Bool) (m u : Nat) : signed s m u = if s then -((m * 2 ^ u : Nat) : Int) else ((m * 2 ^ u : Nat) : Int) := by
  unfold signed; simp [Nat.shiftLeft_eq]

theorem signed_lt_iff (s t : Bool) (m n u v c : Nat) :
    (signed s m u < signed t n v ↔ signed s m (u + c) < signed t n (v + c)) ∧ (signed s m u = signed t n v ↔ signed s m (u + c) = signed t n (v + c)) := by
  have hc : (0 : Int) < ((2 ^ c : Nat) : Int) := by have := Nat.two_pow_pos c; omega
  have e : ∀ (s : Bool) (m u : Nat), signed s m (u + c) = signed s m u * ((2 ^ c : Nat) : Int) := by
    intro s m u
    rw [signed_eq, signed_eq]
    have : m * 2 ^ (u + c) = m * 2 ^ u * 2 ^ c := by rw [Nat.pow_add, Nat.mul_assoc]
    rw [this, Int.natCast_mul (m * 2 ^ u)]
    split
    · rw [Int.neg_mul]
    · rfl
  rw [e, e]
  constructor
  · constructor
    · intro h; exact Int.mul_lt_mul_of_pos_right h hc
    · intro h; exact Int.lt_of_mul_lt_mul_right h (Int.le_of_lt hc)
  · constructor
    · intro h; rw [h]
    · intro h; exact Int.eq_of_mul_eq_mul_right (by omega) h

/-- the value of a finite float in least units -/
def V (b : Nat) : Int := signed (ng b) (mag (rg b)) (plc (rg b))
theorem V_eq (b : Nat) : V b = if ng b then -(M (rg b) : Int) else (M (rg b) : Int) := by
  unfold V; rw [signed_eq]; rfl
theorem V_lt_iff (a b : Nat) : V a < V b ↔ K a < K b := by
  rw [V_eq, V_eq]; unfold K
  have h1 := @M_lt_iff (rg a) (rg b); have h2 := @M_lt_iff (rg b) (rg a)
  have z1 := @M_lt_iff 0 (rg a); have z2 := @M_lt_iff 0 (rg b)
  rw [M_zero] at z1 z2
  split <;> split <;> omega
theorem V_eq_iff (a b : Nat) : V a = V b ↔ K a = K b := by
  have h1 := V_lt_iff a b; have h2 := V_lt_iff b a; omega

theorem order_num {a b : Nat} (ha : rg a < 9218868437227405312) (hb : rg b < 9218868437227405312) :
    double.order a b = some (compare (K a) (K b)) := by
  unfold Format.order
  rw [read_fin ha, read_fin hb]
  unfold Datum.order
  simp only
  congr 1
  generalize hi : (-1074 + (plc (rg a) : Int)) = i
  generalize hj : (-1074 + (plc (rg b) : Int)) = j
  have s1 := signed_lt_iff (ng a) (ng b) (mag (rg a)) (mag (rg b)) (i - min i j).toNat (j - min i j).toNat (min i j + 1074).toNat
  rw [show (i - min i j).toNat + (min i j + 1074).toNat = plc (rg a) from by omega, show (j - min i j).toNat + (min i j + 1074).toNat = plc (rg b) from by omega] at s1
  have v1 := V_lt_iff a b; have v2 := V_eq_iff a b
  unfold V at v1 v2
  rw [cmp_int, cmp_int]
  by_cases g1 : K a < K b
  · rw [if_pos (s1.1.2 (v1.2 g1)), if_pos g1]
  · rw [if_neg (fun h => g1 (v1.1 (s1.1.1 h))), if_neg g1]
    by_cases g2 : K a = K b
    · rw [if_pos (s1.2.2 (v2.2 g2)), if_pos g2]
    · rw [if_neg (fun h => g2 (v2.1 (s1.2.1 h))), if_neg g2]

theorem order_some {a b : Nat} (ha : isNaN a = false) (hb : isNaN b = false) : double.order a b = some (compare (K a) (K b)) := by
  unfold isNaN at ha hb
  simp only [decide_eq_false_iff_not, Nat.not_lt] at ha hb
  by_cases h1 : rg a < 9218868437227405312
  · by_cases h2 : rg b < 9218868437227405312
    · exact order_num h1 h2
    · unfold Format.order
      rw [read_fin h1, read_inf (show rg b = _ by omega)]
      unfold Datum.order; simp only; congr 1
      rw [cmp_int]; unfold K
      cases hng : ng b <;> simp only [Bool.false_eq_true, if_false, if_true]
      · rw [if_pos (by split <;> omega)]
      · rw [if_neg (by split <;> omega), if_neg (by split <;> omega)]
  · by_cases h2 : rg b < 9218868437227405312
    · unfold Format.order
      rw [read_fin h2, read_inf (show rg a = _ by omega)]
      unfold Datum.order; simp only; congr 1
      rw [cmp_int]; unfold K
      cases hng : ng a <;> simp only [Bool.false_eq_true, if_false, if_true]
      · rw [if_neg (by split <;> omega), if_neg (by split <;> omega)]
      · rw [if_pos (by split <;> omega)]
    · unfold Format.order
      rw [read_inf (show rg a = _ by omega), read_inf (show rg b = _ by omega)]
      unfold Datum.order; simp only; congr 1
      rw [cmp_int]; unfold K
      rw [show rg a = 9218868437227405312 from by omega, show rg b = 9218868437227405312 from by omega]
      cases ng a <;> cases ng b <;> decide

theorem order_nan_left {a : Nat} (b : Nat) (h : isNaN a = true) : double.order a b = none := by
  unfold isNaN at h; simp only [decide_eq_true_eq] at h
  unfold Format.order; rw [read_nan h]; unfold Datum.order; cases double.read b <;> rfl
theorem order_nan_right (a : Nat) {b : Nat} (h : isNaN b = true) : double.order a b = none := by
  unfold isNaN at h; simp only [decide_eq_true_eq] at h
  unfold Format.order; rw [read_nan h]; unfold Datum.order; cases double.read a <;> rfl

/-- Go's comparisons, as plain ones -/
def feq (a b : Nat) : Bool := !isNaN a && !isNaN b && decide (K a = K b)
def flt (a b : Nat) : Bool := !isNaN a && !isNaN b && decide (K a < K b)
theorem order_eq (a b : Nat) : (double.order a b == some .eq) = feq a b := by
  unfold feq
  cases ha : isNaN a
  · cases hb : isNaN b
    · rw [order_some ha hb, cmp_int]
      by_cases g : K a = K b
      · simp [g]
      · by_cases g1 : K a < K b <;> simp [g, g1]
    · simp [order_nan_right a hb]
  · simp [order_nan_left b ha]
theorem order_lt (a b : Nat) : (double.order a b == some .lt) = flt a b := by
  unfold flt
  cases ha : isNaN a
  · cases hb : isNaN b
    · rw [order_some ha hb, cmp_int]
      by_cases g1 : K a < K b
      · simp [g1]
      · by_cases g : K a = K b <;> simp [g, g1]
    · simp [order_nan_right a hb]
  · simp [order_nan_left b ha]
theorem order_gt (a b : Nat) : (double.order a b == some .gt) = flt b a := by
  unfold flt
  cases ha : isNaN a
  · cases hb : isNaN b
    · rw [order_some ha hb, cmp_int]
      by_cases g1 : K a < K b
      · have : ¬ K b < K a := by omega
        simp [g1, this]
      · by_cases g : K a = K b
        · simp [g]
        · have : K b < K a := by omega
          simp [g, g1, this]
    · simp [order_nan_right a hb]
  · simp [order_nan_left b ha]
end Fl
end Go.Proofs.YtnaamiecljinnaaGreat
