/-
  Plain law: a float taken apart and put together (package math's Frexp and Ldexp), and odd parts. No program is in sight.
-/
import Derived.Test.YtnaamiecljinnaaGreatFb
namespace Go.Proofs.YtnaamiecljinnaaGreat
open Ieee

def nrm (r : Nat) : Nat := if r < 4503599627370496 then Fl.rungOf r (-1022) else r
def nrmE (r : Nat) : Int := if r < 4503599627370496 then -52 else 0
def frx (r : Nat) : Nat := 1022 * 4503599627370496 + nrm r % 4503599627370496
def frxE (r : Nat) : Int := nrmE r + ((nrm r / 4503599627370496 : Nat) : Int) - 1022
/-- the whole number of 53 binary digits that a float is, at a place -/
def n53 (r : Nat) : Nat := 4503599627370496 + nrm r % 4503599627370496

theorem word_false (r : Nat) : double.word false r = r := by rw [Fl.word_eq]; rfl

theorem rungOf_norm {n : Nat} {k : Int} (h0 : n ≠ 0) (h : n < 9007199254740992) (hk : -1022 ≤ k + n.log2) :
    Fl.rungOf n k = (k + n.log2 + 1022).toNat * 4503599627370496 + n * 2 ^ (52 - n.log2) ∧ 4503599627370496 ≤ n * 2 ^ (52 - n.log2) ∧ n * 2 ^ (52 - n.log2) < 9007199254740992 := by
  have hl := Fl.log2_lt53 h0 h
  refine ⟨?_, Fl.pow_log_ge h0 h, Fl.pow_log h0 h _ (Nat.le_refl _)⟩
  unfold Fl.rungOf Fl.lastOf
  have e : max (k + (n.log2 : Int) - 52) (-1074) = k + n.log2 - 52 := by omega
  rw [e, show (k + (n.log2 : Int) - 52 + 1074).toNat = (k + n.log2 + 1022).toNat from by omega, show (k - (k + (n.log2 : Int) - 52)).toNat = 52 - n.log2 from by omega]

theorem nrm_sub {r : Nat} (h0 : r ≠ 0) (h : r < 4503599627370496) :
    nrm r = r.log2 * 4503599627370496 + r * 2 ^ (52 - r.log2) ∧ 4503599627370496 ≤ r * 2 ^ (52 - r.log2) ∧ r * 2 ^ (52 - r.log2) < 9007199254740992 := by
  have := rungOf_norm (n := r) (k := -1022) h0 (by omega) (by omega)
  unfold nrm; rw [if_pos h, this.1]
  refine ⟨?_, this.2⟩
  rw [show (-1022 + (r.log2 : Int) + 1022).toNat = r.log2 from by omega]

theorem nrm_bounds {r : Nat} (h0 : r ≠ 0) (h : r < 9218868437227405312) : 4503599627370496 ≤ nrm r ∧ nrm r < 9218868437227405312 := by
  by_cases g : r < 4503599627370496
  · have := nrm_sub h0 g
    have hl := Fl.log2_lt53 h0 (show r < 9007199254740992 by omega)
    omega
  · unfold nrm; rw [if_neg g]; omega
theorem frx_bounds (r : Nat) : 4602678819172646912 ≤ frx r ∧ frx r < 4607182418800017408 := by unfold frx; omega

/-- the number that is taken out, and where it stands: the float's own, so many places further down -/
theorem n53_eq {r : Nat} (h0 : r ≠ 0) (h : r < 9218868437227405312) :
    ∃ j : Nat, n53 r = Fl.mag r * 2 ^ j ∧ frxE r - 53 = (Fl.plc r : Int) - 1074 - j := by
  by_cases g : r < 4503599627370496
  · obtain ⟨e, h1, h2⟩ := nrm_sub h0 g
    have hl : r.log2 < 52 := (Nat.log2_lt h0).2 (by simpa using g)
    refine ⟨52 - r.log2, ?_, ?_⟩
    · unfold n53 Fl.mag; rw [e, if_pos g]
      generalize r * 2 ^ (52 - r.log2) = x at *
      omega
    · unfold frxE nrmE Fl.plc; rw [e, if_pos g, if_pos g]
      generalize r * 2 ^ (52 - r.log2) = x at *
      omega
  · refine ⟨0, ?_, ?_⟩
    · unfold n53 nrm Fl.mag; rw [if_neg g, if_neg g]; omega
    · unfold frxE nrmE nrm Fl.plc; rw [if_neg g, if_neg g, if_neg g]; omega

/-- the odd part of a number, and how often it is even; with fuel -/
def oddF : Nat → Nat → Nat
  | 0, n => n
  | f + 1, n => if n % 2 = 0 then oddF f (n / 2) else n
def tzF : Nat → Nat → Nat
  | 0, _ => 0
  | f + 1, n => if n % 2 = 0 then tzF f (n / 2) + 1 else 0
theorem oddF_of : ∀ (f o k : Nat), o % 2 = 1 → o * 2 ^ k < 2 ^ f → oddF f (o * 2 ^ k) = o ∧ tzF f (o * 2 ^ k) = k
  | 0, o, k, ho, h => by
    have := Nat.two_pow_pos k
    have : 0 < o * 2 ^ k := Nat.mul_pos (by omega) this
    omega
  | f + 1, o, 0, ho, h => by simp [oddF, tzF, ho]
  | f + 1, o, k + 1, ho, h => by
    have e : o * 2 ^ (k + 1) = o * 2 ^ k * 2 := by rw [Nat.pow_succ, Nat.mul_assoc]
    have e0 : o * 2 ^ (k + 1) % 2 = 0 := by rw [e]; omega
    have e1 : o * 2 ^ (k + 1) / 2 = o * 2 ^ k := by rw [e]; omega
    have ih := oddF_of f o k ho (by rw [e, Nat.pow_succ 2 f] at h; omega)
    rw [oddF, tzF, if_pos e0, if_pos e0, e1, ih.1, ih.2]; exact ⟨rfl, rfl⟩
def odd (n : Nat) : Nat := oddF 64 n
def tz (n : Nat) : Nat := tzF 64 n
theorem odd_of {n o k : Nat} (ho : o % 2 = 1) (hn : n = o * 2 ^ k) (h : n < 18446744073709551616) : odd n = o ∧ tz n = k := by
  subst hn; exact oddF_of 64 o k ho h
theorem exists_odd : ∀ (f n : Nat), n ≠ 0 → n < 2 ^ f → ∃ o k, o % 2 = 1 ∧ n = o * 2 ^ k
  | 0, n, h0, h => by omega
  | f + 1, n, h0, h => by
    by_cases g : n % 2 = 0
    · obtain ⟨o, k, ho, e⟩ := exists_odd f (n / 2) (by omega) (by rw [Nat.pow_succ] at h; omega)
      exact ⟨o, k + 1, ho, by rw [Nat.pow_succ, ← Nat.mul_assoc, ← e]; omega⟩
    · exact ⟨n, 0, by omega, by simp⟩
theorem odd_spec {n : Nat} (h0 : n ≠ 0) (h : n < 18446744073709551616) : odd n % 2 = 1 ∧ n = odd n * 2 ^ tz n := by
  obtain ⟨o, k, ho, e⟩ := exists_odd 64 n h0 h
  have := odd_of ho e h
  rw [this.1, this.2]; exact ⟨ho, e⟩
theorem odd_shift {n j : Nat} (h0 : n ≠ 0) (h : n * 2 ^ j < 18446744073709551616) : odd (n * 2 ^ j) = odd n ∧ tz (n * 2 ^ j) = tz n + j := by
  have hn : n < 18446744073709551616 := Nat.lt_of_le_of_lt (Nat.le_mul_of_pos_right _ (Nat.two_pow_pos j)) h
  obtain ⟨ho, e⟩ := odd_spec h0 hn
  refine odd_of ho ?_ h
  rw [Nat.pow_add, ← Nat.mul_assoc, ← e]

/-- a finite float's odd number and its place -/
def txtN (r : Nat) : Nat := odd (Fl.mag r)
def txtE (r : Nat) : Int := (tz (Fl.mag r) : Int) + Fl.plc r - 1074
theorem mag_ne {r : Nat} (h0 : r ≠ 0) : Fl.mag r ≠ 0 := by
  have e := Fl.rung_eq r
  intro hm
  by_cases g : 0 < Fl.plc r
  · have := Fl.mag_norm g; omega
  · omega
theorem txt_n53 {r : Nat} (h0 : r ≠ 0) (h : r < 9218868437227405312) : odd (n53 r) = txtN r ∧ frxE r - 53 + tz (n53 r) = txtE r := by
  obtain ⟨j, e1, e2⟩ := n53_eq h0 h
  have hb : n53 r < 18446744073709551616 := by unfold n53; omega
  rw [e1] at hb ⊢
  obtain ⟨a, b⟩ := odd_shift (mag_ne h0) hb
  unfold txtN txtE
  exact ⟨a, by rw [b]; omega⟩

/-- a number of at most 53 binary digits at a place: is it a float? -/
def rep (n : Nat) (k : Int) : Prop := -1074 ≤ k ∧ k + n.log2 ≤ 1023
instance (n : Nat) (k : Int) : Decidable (rep n k) := by unfold rep; infer_instance

theorem log2_mono {a b : Nat} (h0 : a ≠ 0) (h : a ≤ b) : a.log2 ≤ b.log2 := (Nat.le_log2 (by omega)).2 (Nat.le_trans (Nat.log2_self_le h0) h)

theorem txt_bounds {r : Nat} (h0 : r ≠ 0) (h : r < 9218868437227405312) : txtN r % 2 = 1 ∧ txtN r < 9007199254740992 ∧ rep (txtN r) (txtE r) ∧ txtN r * 2 ^ tz (Fl.mag r) = Fl.mag r := by
  have hm := Fl.mag_lt r
  have m0 := mag_ne h0
  obtain ⟨ho, e⟩ := odd_spec m0 (by omega)
  have hle : odd (Fl.mag r) ≤ Fl.mag r := by
    have : odd (Fl.mag r) ≤ odd (Fl.mag r) * 2 ^ tz (Fl.mag r) := Nat.le_mul_of_pos_right _ (Nat.two_pow_pos _)
    rw [← e] at this; exact this
  have hlog : (Fl.mag r).log2 = (odd (Fl.mag r)).log2 + tz (Fl.mag r) := by
    have := log2_shift (m := odd (Fl.mag r)) (by omega) (tz (Fl.mag r))
    rw [← e] at this; exact this
  have hp := Fl.plc_le h
  have h52 := Fl.log2_lt53 m0 hm
  refine ⟨ho, Nat.lt_of_le_of_lt hle hm, ⟨?_, ?_⟩, e.symm⟩
  · unfold txtE; omega
  · unfold txtN txtE; omega

theorem mul_one {b : Nat} (hb : F64 b) (h : Fl.rg b < 9218868437227405312) : double.mul 4607182418800017408 b = some b := by
  unfold Format.mul
  have e1 : double.read 4607182418800017408 = .number false 4503599627370496 (-52) := by decide
  rw [e1, Fl.read_fin h]
  simp only [Datum.product, Bool.false_xor, Option.map_some, Format.write]
  congr 1
  rw [Nat.mul_comm, show (4503599627370496 : Nat) = 2 ^ 52 from rfl, nearest_shift]
  by_cases h0 : Fl.rg b = 0
  · rw [h0, show Fl.mag 0 = 0 from by decide, Fl.nearest_zero]
    have := Fl.word_of hb
    rw [h0] at this; exact this
  · have hp := Fl.plc_le h
    have hl := Fl.log2_lt53 (mag_ne h0) (Fl.mag_lt _)
    rw [show (-52 : Int) + (-1074 + (Fl.plc (Fl.rg b) : Int)) + (52 : Nat) = -1074 + (Fl.plc (Fl.rg b) : Int) from by omega,
      Fl.nearest_fin _ (mag_ne h0) (Fl.mag_lt _) (by omega) (by omega), Fl.rungOf_self h h0, Fl.word_of hb]

/-- Ldexp of a normal float that is not below zero -/
def ldxE (r : Nat) (e : Int) : Int := e + ((r / 4503599627370496 : Nat) : Int) - 1023
def ldxS (r : Nat) (e : Int) : Nat := (ldxE r e + 53 + 1023).toNat * 4503599627370496 + r % 4503599627370496
def ldxB (r : Nat) (e : Int) : Nat :=
  if ldxE r e < -1075 then 0 else if 1023 < ldxE r e then 9218868437227405312
  else if ldxE r e < -1022 then double.nearest false (4503599627370496 + r % 4503599627370496) (ldxE r e - 52)
  else (ldxE r e + 1023).toNat * 4503599627370496 + r % 4503599627370496

theorem ldx_mul {r : Nat} {e : Int} (h1 : ¬ ldxE r e < -1075) (h2 : ldxE r e < -1022) :
    double.mul 4368491638549381120 (ldxS r e) = some (double.nearest false (4503599627370496 + r % 4503599627370496) (ldxE r e - 52)) := by
  unfold Format.mul
  have e1 : double.read 4368491638549381120 = .number false 4503599627370496 (-105) := by decide
  generalize hE : ldxE r e = E at *
  have hx : ldxS r e < 9218868437227405312 := by unfold ldxS; rw [hE]; omega
  have e2 : Fl.rg (ldxS r e) = ldxS r e := Nat.mod_eq_of_lt (by omega)
  have e3 : Fl.ng (ldxS r e) = false := by unfold Fl.ng; simp; omega
  have e4 : Fl.mag (ldxS r e) = 4503599627370496 + r % 4503599627370496 := by unfold Fl.mag ldxS; rw [hE, if_neg (by omega)]; omega
  have e5 : (Fl.plc (ldxS r e) : Int) = E + 1075 := by unfold Fl.plc ldxS; rw [hE, if_neg (by omega)]; omega
  rw [e1, Fl.read_fin (by rw [e2]; exact hx), e2, e3, e4, e5]
  simp only [Datum.product, Bool.false_xor, Option.map_some, Format.write]
  rw [Nat.mul_comm, show (4503599627370496 : Nat) = 2 ^ 52 from rfl, nearest_shift]
  congr 2
  omega

theorem ldx_exact {n : Nat} {k : Int} (h0 : n ≠ 0) (h : n < 9007199254740992) (hr : rep n k) : ldxB (Fl.rungOf n 0) k = Fl.rungOf n k := by
  obtain ⟨hk, hk2⟩ := hr
  have hl := Fl.log2_lt53 h0 h
  obtain ⟨e0, g1, g2⟩ := rungOf_norm (n := n) (k := 0) h0 h (by omega)
  generalize hN : n * 2 ^ (52 - n.log2) = N at *
  have q1 : Fl.rungOf n 0 / 4503599627370496 = n.log2 + 1023 := by rw [e0]; omega
  have q2 : Fl.rungOf n 0 % 4503599627370496 = N - 4503599627370496 := by rw [e0]; omega
  have hE : ldxE (Fl.rungOf n 0) k = k + n.log2 := by unfold ldxE; rw [q1]; omega
  unfold ldxB
  rw [hE, q2, if_neg (by omega), if_neg (by omega)]
  by_cases c : k + (n.log2 : Int) < -1022
  · rw [if_pos c, show 4503599627370496 + (N - 4503599627370496) = n * 2 ^ (52 - n.log2) from by omega, nearest_shift,
      show k + (n.log2 : Int) - 52 + ((52 - n.log2 : Nat) : Int) = k from by omega, Fl.nearest_fin _ h0 h hk hk2, word_false]
  · rw [if_neg c]
    obtain ⟨e1, _, _⟩ := rungOf_norm (n := n) (k := k) h0 h (by omega)
    rw [e1, hN]; omega

theorem ldx_top {f : Nat} (hf : f < 4503599627370496) : ldxB (1022 * 4503599627370496 + f) 53 = 1075 * 4503599627370496 + f := by
  have q1 : (1022 * 4503599627370496 + f) / 4503599627370496 = 1022 := by omega
  have q2 : (1022 * 4503599627370496 + f) % 4503599627370496 = f := by omega
  have hE : ldxE (1022 * 4503599627370496 + f) 53 = 52 := by unfold ldxE; rw [q1]; rfl
  unfold ldxB
  rw [hE, q2]; rfl
end Go.Proofs.YtnaamiecljinnaaGreat
