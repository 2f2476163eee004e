/-
  Plain law: the row of floats is total and one; what is less stands first; with the other signs the row is turned. No program is in sight.
-/
import Derived.Test.YtbcgecenfedjdaaDoorFa
namespace Go.Proofs.YtbcgecenfedjdaaDoor

theorem ord_vals (a b : Nat) : ordB a b = -1 ∨ ordB a b = 0 ∨ ordB a b = 1 := by unfold ordB; repeat' split
                                                                                 all_goals simp
theorem ord_anti (a b : Nat) : ordB b a = -ordB a b := by unfold ordB; repeat' split
                                                          all_goals omega
theorem ord_trans {a b c : Nat} (h1 : ordB a b ≤ 0) (h2 : ordB b c ≤ 0) : ordB a c ≤ 0 := by
  have e : ∀ x y : Nat, ordB x y ≤ 0 ↔ keyB x ≤ keyB y := by
    intro x y; unfold ordB; repeat' split
    all_goals omega
  rw [e] at *; omega
theorem key_inj {a b : Nat} (ha : F64 a) (hb : F64 b) : keyB a = keyB b ↔ canon a = canon b := by
  have la := rg_lt a; have lb := rg_lt b
  unfold canon
  cases na : Fl.isNaN a
  · cases nb : Fl.isNaN b
    · unfold keyB
      rw [na, nb]
      simp only [Bool.false_eq_true, if_false]
      rcases ng_cases ha with ⟨ga, ea⟩ | ⟨ga, ea⟩ <;> rcases ng_cases hb with ⟨gb, eb⟩ | ⟨gb, eb⟩ <;> rw [ga, gb] <;> simp only [Bool.false_eq_true, if_false, if_true] <;> omega
    · have ka := keyB_le na; have kb := keyB_nan nb
      simp only [Bool.false_eq_true, if_false, if_true]
      constructor
      · intro h; omega
      · intro h; rw [h, nan_cnan] at na; cases na
  · cases nb : Fl.isNaN b
    · have ka := keyB_nan na; have kb := keyB_le nb
      simp only [Bool.false_eq_true, if_false, if_true]
      constructor
      · intro h; omega
      · intro h; rw [← h, nan_cnan] at nb; cases nb
    · rw [keyB_nan na, keyB_nan nb]; simp
theorem ord_zero {a b : Nat} (ha : F64 a) (hb : F64 b) : ordB a b = 0 ↔ canon a = canon b := by
  rw [← key_inj ha hb]; unfold ordB; repeat' split
  all_goals omega
theorem flt_ord {a b : Nat} (h : Fl.flt a b = true) : ordB a b = -1 := by
  rw [flt_key] at h
  simp only [Bool.and_eq_true, decide_eq_true_eq] at h
  rcases ord_vals a b with e | e | e <;> omega

/-- with the other signs -/
theorem key_neg {a : Nat} (ha : F64 a) (hn : Fl.isNaN a = false) : keyB (negB a) = -1 - keyB a := by
  have e : negB a = flipB a := by unfold negB canon; rw [flip_nan ha, hn]; rfl
  rw [e]
  unfold keyB
  rw [flip_nan ha, hn, flip_ng ha, flip_rg ha]
  cases Fl.ng a <;> simp only [Bool.false_eq_true, if_false, if_true, Bool.not_true, Bool.not_false] <;> omega
theorem ord_neg {a b : Nat} (ha : F64 a) (hb : F64 b) (na : Fl.isNaN a = false) (nb : Fl.isNaN b = false) : ordB (negB a) (negB b) = -ordB a b := by
  unfold ordB
  rw [key_neg ha na, key_neg hb nb]
  repeat' split
  all_goals omega
theorem flt_neg {a b : Nat} (ha : F64 a) (hb : F64 b) (na : Fl.isNaN a = false) (nb : Fl.isNaN b = false) : Fl.flt (negB b) (negB a) = Fl.flt a b := by
  have ea : negB a = flipB a := by unfold negB canon; rw [flip_nan ha, na]; rfl
  have eb : negB b = flipB b := by unfold negB canon; rw [flip_nan hb, nb]; rfl
  rw [ea, eb]
  unfold Fl.flt Fl.K
  rw [flip_nan ha, flip_nan hb, na, nb, flip_ng ha, flip_ng hb, flip_rg ha, flip_rg hb]
  simp only [Bool.not_false, Bool.true_and]
  rw [Bool.eq_iff_iff]
  simp only [decide_eq_true_eq]
  cases Fl.ng a <;> cases Fl.ng b <;> simp only [Bool.false_eq_true, if_false, if_true, Bool.not_true, Bool.not_false] <;> omega
end Go.Proofs.YtbcgecenfedjdaaDoor
