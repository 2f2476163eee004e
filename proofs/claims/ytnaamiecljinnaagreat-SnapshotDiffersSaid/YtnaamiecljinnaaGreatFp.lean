/-
  Plain law: the row in which floats stand (the references' key), and Go's comparisons said by it. No program is in sight.
-/
import Derived.Test.YtnaamiecljinnaaGreatFl
import Derived.IntWalk
namespace Go.Proofs.YtnaamiecljinnaaGreat

/-- a word of 64 bits -/
def F64 (b : Nat) : Prop := b < 18446744073709551616
theorem F64.out {b : Nat} (h : F64 b) : b < 18446744073709551616 := h
def cnan : Nat := 9221120237041090560
def canon (b : Nat) : Nat := if Fl.isNaN b then cnan else b
def isZ (b : Nat) : Bool := decide (Fl.rg b = 0)
def keyB (b : Nat) : Int := if Fl.isNaN b then 9223372036854775807 else if Fl.ng b then -1 - (Fl.rg b : Int) else Fl.rg b
def ordB (a b : Nat) : Int := if keyB a < keyB b then -1 else if keyB b < keyB a then 1 else 0
def rank1 (b : Nat) : Int := if Fl.isNaN b then 1 else 0
def rank2 (b : Nat) : Int := if Fl.isNaN b then 0 else if isZ b && Fl.ng b then -1 else 0

theorem cnan_F64 : F64 cnan := by unfold F64 cnan; omega
theorem canon_F64 {b : Nat} (h : F64 b) : F64 (canon b) := by unfold canon; split; exact cnan_F64; exact h
theorem nan_cnan : Fl.isNaN cnan = true := by decide
theorem nan_canon (b : Nat) : Fl.isNaN (canon b) = Fl.isNaN b := by
  unfold canon; cases h : Fl.isNaN b <;> simp [h, nan_cnan]
theorem canon_canon (b : Nat) : canon (canon b) = canon b := by
  have := nan_canon b
  cases h : Fl.isNaN b
  · rw [h] at this; rw [canon, this]; simp
  · rw [h] at this; simp [canon, h, nan_cnan]

theorem nan_lt {b : Nat} (h : Fl.isNaN b = false) : Fl.rg b ≤ 9218868437227405312 := by
  unfold Fl.isNaN at h; simpa using h
theorem ng_cases {b : Nat} (hb : F64 b) : (Fl.ng b = true ∧ b = 9223372036854775808 + Fl.rg b) ∨ (Fl.ng b = false ∧ b = Fl.rg b) := by
  unfold F64 at hb
  unfold Fl.ng Fl.rg
  by_cases g : b / 9223372036854775808 % 2 = 1
  · left; simp [g]; omega
  · right; simp [g]; omega
theorem rg_lt (b : Nat) : Fl.rg b < 9223372036854775808 := Nat.mod_lt _ (by omega)

theorem keyB_le {b : Nat} (h : Fl.isNaN b = false) : keyB b ≤ 9218868437227405312 ∧ -9218868437227405313 ≤ keyB b := by
  have := nan_lt h
  unfold keyB; rw [h]; simp only [Bool.false_eq_true, if_false]; split <;> omega
theorem keyB_nan {b : Nat} (h : Fl.isNaN b = true) : keyB b = 9223372036854775807 := by unfold keyB; simp [h]

theorem bits_shl (b : Nat) : IntKind.u64.wrap ((b : Int) * 2) = 2 * (Fl.rg b : Int) := by
  unfold Fl.rg IntKind.wrap
  simp [IntKind.bits, IntKind.signed]
  omega
theorem nan_bits (b : Nat) : decide (18437736874454810624 < IntKind.u64.wrap ((b : Int) * 2)) = Fl.isNaN b := by
  rw [bits_shl]; unfold Fl.isNaN
  apply decide_eq_decide.2; omega
theorem inf_bits (b : Nat) : (IntKind.u64.wrap ((b : Int) * 2) == 18437736874454810624) = decide (Fl.rg b = 9218868437227405312) := by
  rw [bits_shl, Bool.eq_iff_iff]; simp; omega
theorem zero_bits (b : Nat) : (IntKind.u64.wrap ((b : Int) * 2) == 0) = isZ b := by
  rw [bits_shl]; unfold isZ; rw [Bool.eq_iff_iff]; simp; omega
theorem ng_bits {b : Nat} (hb : F64 b) : decide (9223372036854775808 ≤ (b : Int)) = Fl.ng b := by
  have h1 := rg_lt b
  rcases ng_cases hb with ⟨h, e⟩ | ⟨h, e⟩ <;> rw [h] <;> simp <;> omega

theorem feq_key (a b : Nat) : Fl.feq a b = (!Fl.isNaN a && (!Fl.isNaN b && ((ordB a b == 0) || (isZ a && isZ b)))) := by
  unfold Fl.feq
  cases ha : Fl.isNaN a
  · cases hb : Fl.isNaN b
    · unfold ordB isZ keyB Fl.K
      rw [ha, hb, Bool.eq_iff_iff]
      simp only [Bool.not_false, Bool.true_and, Bool.false_eq_true, if_false, decide_eq_true_eq, Bool.or_eq_true, Bool.and_eq_true, beq_iff_eq]
      cases Fl.ng a <;> cases Fl.ng b <;> simp only [Bool.false_eq_true, if_false, if_true] <;> repeat' split
      all_goals omega
    · simp
  · simp
theorem flt_key (a b : Nat) : Fl.flt a b = (!Fl.isNaN a && (!Fl.isNaN b && (!(isZ a && isZ b) && decide (ordB a b < 0)))) := by
  unfold Fl.flt
  cases ha : Fl.isNaN a
  · cases hb : Fl.isNaN b
    · unfold ordB isZ keyB Fl.K
      rw [ha, hb, Bool.eq_iff_iff]
      simp only [Bool.not_false, Bool.true_and, Bool.false_eq_true, if_false, decide_eq_true_eq, Bool.and_eq_true, Bool.not_eq_true', Bool.and_eq_false_iff, decide_eq_false_iff_not]
      cases Fl.ng a <;> cases Fl.ng b <;> simp only [Bool.false_eq_true, if_false, if_true] <;> repeat' split
      all_goals omega
    · simp
  · simp

/-- the program's order, by ranks and Go's comparisons, is the row's -/
def ordF (a b : Nat) : Int :=
  if rank1 a ≠ rank1 b then rank1 a - rank1 b else if rank1 a = 1 then 0
  else if Fl.flt a b || (Fl.feq a b && decide (rank2 a < rank2 b)) then -1
  else if Fl.flt b a || (Fl.feq a b && decide (rank2 b < rank2 a)) then 1 else 0
theorem ordF_eq (a b : Nat) : ordF a b = ordB a b := by
  unfold ordF rank1 rank2
  cases ha : Fl.isNaN a
  · cases hb : Fl.isNaN b
    · have ka := keyB_le ha; have kb := keyB_le hb
      unfold Fl.flt Fl.feq Fl.K ordB keyB isZ
      simp only [ha, hb, Bool.not_false, Bool.true_and, Bool.false_eq_true, if_false, ne_eq, not_true, if_false]
      rw [if_neg (by omega)]
      cases Fl.ng a <;> cases Fl.ng b <;> simp only [Bool.false_eq_true, if_false, if_true, Bool.and_true, Bool.and_false, decide_eq_true_eq, Bool.or_eq_true, Bool.and_eq_true] <;> repeat' split
      all_goals omega
    · have ka := keyB_le ha; have kb := keyB_nan hb
      have e : ordB a b = -1 := by unfold ordB; rw [kb, if_pos (by omega)]
      rw [e]; rfl
  · cases hb : Fl.isNaN b
    · have ka := keyB_nan ha; have kb := keyB_le hb
      have e : ordB a b = 1 := by unfold ordB; rw [ka, if_neg (by omega), if_pos (by omega)]
      rw [e]; rfl
    · have ka := keyB_nan ha; have kb := keyB_nan hb
      unfold ordB; rw [ka, kb]; simp
end Go.Proofs.YtnaamiecljinnaaGreat
