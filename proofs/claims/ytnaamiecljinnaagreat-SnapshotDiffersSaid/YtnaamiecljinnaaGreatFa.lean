/-
  Plain law: Go's arithmetic on floats, as functions of the bits, with what is no number made one; and its simple laws. No program is in sight.
-/
import Derived.Test.YtnaamiecljinnaaGreatFp
namespace Go.Proofs.YtnaamiecljinnaaGreat
open Ieee

def some1 (o : Option Nat) : Nat := match o with | some r => canon r | none => cnan
def addB (a b : Nat) : Nat := some1 (double.add a b)
def subB (a b : Nat) : Nat := some1 (double.sub a b)
def mulB (a b : Nat) : Nat := some1 (double.mul a b)
def divB (a b : Nat) : Nat := some1 (double.div a b)
def flipB (b : Nat) : Nat := b ^^^ 9223372036854775808
def negB (b : Nat) : Nat := canon (flipB b)

theorem xor_low {r : Nat} (h : r < 9223372036854775808) : r ^^^ 9223372036854775808 = 9223372036854775808 + r := by
  apply Nat.eq_of_testBit_eq
  intro i
  rw [Nat.testBit_xor]
  have e : (9223372036854775808 : Nat) = 2 ^ 63 := rfl
  rw [e]
  rcases Nat.lt_trichotomy i 63 with g | g | g
  · rw [Nat.testBit_two_pow_add_gt g, Nat.testBit_two_pow_of_ne (by omega)]; simp
  · subst g; rw [Nat.testBit_two_pow_add_eq, Nat.testBit_two_pow_self]; simp
  · have h1 : r.testBit i = false := Nat.testBit_lt_two_pow (Nat.lt_of_lt_of_le h (by rw [e]; exact Nat.pow_le_pow_right (by omega) (by omega)))
    have h2 : (2 ^ 63 + r).testBit i = false := by
      refine Nat.testBit_lt_two_pow (Nat.lt_of_lt_of_le (show 2 ^ 63 + r < 2 ^ 64 by omega) (Nat.pow_le_pow_right (by omega) (by omega)))
    rw [h1, h2, Nat.testBit_two_pow_of_ne (by omega)]; rfl
theorem xor_high {r : Nat} (h : r < 9223372036854775808) : (9223372036854775808 + r) ^^^ 9223372036854775808 = r := by
  rw [← xor_low h, Nat.xor_assoc, Nat.xor_self, Nat.xor_zero]
theorem flip_eq {b : Nat} (hb : F64 b) : (Fl.ng b = true ∧ b = 9223372036854775808 + Fl.rg b ∧ flipB b = Fl.rg b) ∨ (Fl.ng b = false ∧ b = Fl.rg b ∧ flipB b = 9223372036854775808 + Fl.rg b) := by
  have hl := rg_lt b
  rcases ng_cases hb with ⟨h, e⟩ | ⟨h, e⟩
  · left; refine ⟨h, e, ?_⟩; exact (congrArg (· ^^^ 9223372036854775808) e).trans (xor_high hl)
  · right; refine ⟨h, e, ?_⟩; exact (congrArg (· ^^^ 9223372036854775808) e).trans (xor_low hl)
theorem flip_F64 {b : Nat} (hb : F64 b) : F64 (flipB b) := by
  have hl := rg_lt b
  unfold F64
  rcases flip_eq hb with ⟨_, _, e⟩ | ⟨_, _, e⟩ <;> omega
theorem flip_rg {b : Nat} (hb : F64 b) : Fl.rg (flipB b) = Fl.rg b := by
  have hl := rg_lt b
  rcases flip_eq hb with ⟨_, _, e⟩ | ⟨_, _, e⟩ <;> rw [e]
  · exact Nat.mod_eq_of_lt hl
  · generalize Fl.rg b = r at *; unfold Fl.rg; omega
theorem flip_ng {b : Nat} (hb : F64 b) : Fl.ng (flipB b) = !Fl.ng b := by
  have hl := rg_lt b
  rcases flip_eq hb with ⟨h, _, e⟩ | ⟨h, _, e⟩ <;> rw [e, h]
  · generalize Fl.rg b = r at *; unfold Fl.ng; simp; omega
  · generalize Fl.rg b = r at *; unfold Fl.ng; simp; omega
theorem flip_nan {b : Nat} (hb : F64 b) : Fl.isNaN (flipB b) = Fl.isNaN b := by unfold Fl.isNaN; rw [flip_rg hb]
theorem flip_flip {b : Nat} : flipB (flipB b) = b := by unfold flipB; rw [Nat.xor_assoc, Nat.xor_self, Nat.xor_zero]

/-- what is read of the other sign -/
theorem read_flip {b : Nat} (hb : F64 b) : double.read (flipB b) = (double.read b).opposite := by
  have hr := flip_rg hb; have hg := flip_ng hb
  rcases Nat.lt_trichotomy (Fl.rg b) 9218868437227405312 with g | g | g
  · rw [Fl.read_fin g, Fl.read_fin (by rw [hr]; exact g), hr, hg]; rfl
  · rw [Fl.read_inf g, Fl.read_inf (by rw [hr]; exact g), hg]; rfl
  · rw [Fl.read_nan g, Fl.read_nan (by rw [hr]; exact g), hr, hg]; rfl

theorem sum_comm (d e : Datum) : d.sum e = e.sum d := by
  cases d with
  | nan s t => cases e <;> rfl
  | infinity s =>
    cases e with
    | nan t u => rfl
    | infinity t =>
      simp only [Datum.sum]
      by_cases h : s = t
      · subst h; rfl
      · rw [if_neg h, if_neg (fun g => h g.symm)]
    | number t n j => rfl
  | number s m i =>
    cases e with
    | nan t u => rfl
    | infinity t => rfl
    | number t n j =>
      simp only [Datum.sum]
      rw [Int.min_comm j i, Int.add_comm (signed t n _), Bool.and_comm t s]
theorem product_comm (d e : Datum) : d.product e = e.product d := by
  cases d with
  | nan s t => cases e <;> rfl
  | infinity s =>
    cases e with
    | nan t u => rfl
    | infinity t => simp only [Datum.product]; rw [Bool.xor_comm]
    | number t n j => rfl
  | number s m i =>
    cases e with
    | nan t u => rfl
    | infinity t => rfl
    | number t n j => simp only [Datum.product]; rw [Bool.xor_comm, Nat.mul_comm, Int.add_comm]
theorem add_comm' (a b : Nat) : addB a b = addB b a := by unfold addB Format.add; rw [sum_comm]
theorem mul_comm' (a b : Nat) : mulB a b = mulB b a := by unfold mulB Format.mul; rw [product_comm]

theorem read_of_nan {b : Nat} (h : Fl.isNaN b = true) : ∃ s t, double.read b = .nan s t := by
  unfold Fl.isNaN at h; simp only [decide_eq_true_eq] at h
  exact ⟨_, _, Fl.read_nan h⟩
theorem add_nan_left {a : Nat} (b : Nat) (h : Fl.isNaN a = true) : addB a b = cnan := by
  obtain ⟨s, t, e⟩ := read_of_nan h
  unfold addB Format.add; rw [e]; cases double.read b <;> rfl
theorem add_nan_right (a : Nat) {b : Nat} (h : Fl.isNaN b = true) : addB a b = cnan := by rw [add_comm', add_nan_left a h]
theorem div_nan_right (a : Nat) {b : Nat} (h : Fl.isNaN b = true) : divB a b = cnan := by
  obtain ⟨s, t, e⟩ := read_of_nan h
  unfold divB Format.div; rw [e]; cases double.read a <;> rfl
theorem mul_nan_left {a : Nat} (b : Nat) (h : Fl.isNaN a = true) : mulB a b = cnan := by
  obtain ⟨s, t, e⟩ := read_of_nan h
  unfold mulB Format.mul; rw [e]; cases double.read b <;> rfl
theorem sub_nan_right (a : Nat) {b : Nat} (h : Fl.isNaN b = true) : subB a b = cnan := by
  obtain ⟨s, t, e⟩ := read_of_nan h
  unfold subB Format.sub; rw [e]; cases double.read a <;> rfl
theorem sub_eq (a : Nat) {b : Nat} (hb : F64 b) : subB a b = addB a (negB b) := by
  cases h : Fl.isNaN b
  · have : negB b = flipB b := by unfold negB canon; rw [flip_nan hb, h]; rfl
    rw [this]
    unfold subB addB Format.sub Format.add; rw [read_flip hb]
  · rw [sub_nan_right a h, add_nan_right a (by unfold negB; rw [nan_canon, flip_nan hb, h])]

theorem canon_some1 (o : Option Nat) : canon (some1 o) = some1 o := by
  cases o with
  | none => decide
  | some r => exact canon_canon r
theorem neg_neg' {b : Nat} (hb : F64 b) : negB (negB b) = canon b := by
  cases h : Fl.isNaN b
  · have : negB b = flipB b := by unfold negB canon; rw [flip_nan hb, h]; rfl
    rw [this]; unfold negB; rw [flip_flip]
  · have h1 : negB b = cnan := by unfold negB canon; rw [flip_nan hb, h]; rfl
    have h2 : canon b = cnan := by unfold canon; rw [h]; rfl
    rw [h1, h2]
    have : Fl.isNaN (flipB cnan) = true := by rw [flip_nan cnan_F64]; decide
    unfold negB canon; rw [this]; rfl

theorem some1_F64 {o : Option Nat} (h : ∀ r, o = some r → r < 2 ^ double.width) : F64 (some1 o) := by
  cases o with
  | none => exact cnan_F64
  | some r => exact canon_F64 (h r rfl)
theorem addB_F64 (a b : Nat) : F64 (addB a b) := some1_F64 fun _ h => double.add_lt h
theorem subB_F64 (a b : Nat) : F64 (subB a b) := some1_F64 fun _ h => double.sub_lt h
theorem mulB_F64 (a b : Nat) : F64 (mulB a b) := some1_F64 fun _ h => double.mul_lt h
theorem divB_F64 (a b : Nat) : F64 (divB a b) := some1_F64 fun _ h => double.div_lt h
theorem negB_F64 {b : Nat} (h : F64 b) : F64 (negB b) := canon_F64 (flip_F64 h)
end Go.Proofs.YtnaamiecljinnaaGreat
