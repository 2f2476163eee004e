/-
  La2 in one text.
-/
import Derived.KernelRfl
import Derived.Tactics
namespace Go.Proofs.YtkbcdlabfbonoaaGreatDoor
/-- the bits below 8 of a row -/
def bits (f : Nat → Bool) : Nat := (f 0).toNat + 2 * (f 1).toNat + 4 * (f 2).toNat + 8 * (f 3).toNat + 16 * (f 4).toNat + 32 * (f 5).toNat + 64 * (f 6).toNat + 128 * (f 7).toNat
theorem bits_lt (f : Nat → Bool) : bits f < 256 := by
  unfold bits
  have := Bool.toNat_le (f 0); have := Bool.toNat_le (f 1); have := Bool.toNat_le (f 2); have := Bool.toNat_le (f 3)
  have := Bool.toNat_le (f 4); have := Bool.toNat_le (f 5); have := Bool.toNat_le (f 6); have := Bool.toNat_le (f 7)
  omega
theorem bits_all : ∀ b0 b1 b2 b3 b4 b5 b6 b7 : Bool, ∀ y, y < 8 → Nat.testBit (b0.toNat + 2 * b1.toNat + 4 * b2.toNat + 8 * b3.toNat + 16 * b4.toNat + 32 * b5.toNat + 64 * b6.toNat + 128 * b7.toNat) y = [b0, b1, b2, b3, b4, b5, b6, b7].getD y false := by decide
theorem bits_test (f : Nat → Bool) {y : Nat} (hy : y < 8) : Nat.testBit (bits f) y = f y := by
  unfold bits
  rw [bits_all _ _ _ _ _ _ _ _ y hy]
  match y, hy with
  | 0, _ => rfl
  | 1, _ => rfl
  | 2, _ => rfl
  | 3, _ => rfl
  | 4, _ => rfl
  | 5, _ => rfl
  | 6, _ => rfl
  | 7, _ => rfl
theorem bits_hi (f : Nat → Bool) {y : Nat} (hy : 8 ≤ y) : Nat.testBit (bits f) y = false := by
  apply Nat.testBit_lt_two_pow
  exact Nat.lt_of_lt_of_le (bits_lt f) (show 2 ^ 8 ≤ 2 ^ y from Nat.pow_le_pow_right (by decide) hy)
theorem bits_ext {f g : Nat → Bool} (h : ∀ y, y < 8 → f y = g y) : bits f = bits g := by
  unfold bits
  rw [h 0 (by omega), h 1 (by omega), h 2 (by omega), h 3 (by omega), h 4 (by omega), h 5 (by omega), h 6 (by omega), h 7 (by omega)]
theorem bits_or (f g : Nat → Bool) : bits f ||| bits g = bits fun y => f y || g y := by
  apply Nat.eq_of_testBit_eq
  intro y
  rw [Nat.testBit_or]
  rcases Nat.lt_or_ge y 8 with hy | hy
  · rw [bits_test f hy, bits_test g hy, bits_test _ hy]
  · rw [bits_hi f hy, bits_hi g hy, bits_hi _ hy]; rfl
theorem bits_and (f g : Nat → Bool) : bits f &&& bits g = bits fun y => f y && g y := by
  apply Nat.eq_of_testBit_eq
  intro y
  rw [Nat.testBit_and]
  rcases Nat.lt_or_ge y 8 with hy | hy
  · rw [bits_test f hy, bits_test g hy, bits_test _ hy]
  · rw [bits_hi f hy, bits_hi g hy, bits_hi _ hy]; rfl
theorem bits_one {k : Nat} (hk : k < 8) : 1 <<< k = bits fun y => Nat.beq y k := by
  match k, hk with
  | 0, _ => rfl
  | 1, _ => rfl
  | 2, _ => rfl
  | 3, _ => rfl
  | 4, _ => rfl
  | 5, _ => rfl
  | 6, _ => rfl
  | 7, _ => rfl
theorem bits_shr (f : Nat → Bool) {k : Nat} (hk : k < 8) : (bits f >>> k) &&& 1 = (f k).toNat := by
  have h : ((bits f >>> k) &&& 1).testBit 0 = f k := by
    rw [Nat.testBit_and, Nat.testBit_shiftRight, Nat.add_zero, bits_test f hk]; simp
  have h2 : (bits f >>> k) &&& 1 < 2 := Nat.lt_of_le_of_lt Nat.and_le_right (by omega)
  generalize (bits f >>> k) &&& 1 = n at *
  match n, h2 with
  | 0, _ => rw [← h]; rfl
  | 1, _ => rw [← h]; rfl
theorem bits_zero {f : Nat → Bool} : bits f = 0 ↔ ∀ y, y < 8 → f y = false := by
  constructor
  · intro h y hy
    rw [← bits_test f hy, h]; simp
  · intro h
    rw [bits_ext (g := fun _ => false) h]; rfl
theorem bits_eq {f g : Nat → Bool} : bits f = bits g ↔ ∀ y, y < 8 → f y = g y := by
  constructor
  · intro h y hy
    rw [← bits_test f hy, h, bits_test g hy]
  · exact bits_ext
/-- the first bit of a row, and the row without it -/
def tzt : List Nat := [8, 0, 1, 0, 2, 0, 1, 0, 3, 0, 1, 0, 2, 0, 1, 0, 4, 0, 1, 0, 2, 0, 1, 0, 3, 0, 1, 0, 2, 0, 1, 0, 5, 0, 1, 0, 2, 0, 1, 0, 3, 0, 1, 0, 2, 0, 1, 0, 4, 0, 1, 0, 2, 0, 1, 0, 3, 0, 1, 0, 2, 0, 1, 0, 6, 0, 1, 0, 2, 0, 1, 0, 3, 0, 1, 0, 2, 0, 1, 0, 4, 0, 1, 0, 2, 0, 1, 0, 3, 0, 1, 0, 2, 0, 1, 0, 5, 0, 1, 0, 2, 0, 1, 0, 3, 0, 1, 0, 2, 0, 1, 0, 4, 0, 1, 0, 2, 0, 1, 0, 3, 0, 1, 0, 2, 0, 1, 0, 7, 0, 1, 0, 2, 0, 1, 0, 3, 0, 1, 0, 2, 0, 1, 0, 4, 0, 1, 0, 2, 0, 1, 0, 3, 0, 1, 0, 2, 0, 1, 0, 5, 0, 1, 0, 2, 0, 1, 0, 3, 0, 1, 0, 2, 0, 1, 0, 4, 0, 1, 0, 2, 0, 1, 0, 3, 0, 1, 0, 2, 0, 1, 0, 6, 0, 1, 0, 2, 0, 1, 0, 3, 0, 1, 0, 2, 0, 1, 0, 4, 0, 1, 0, 2, 0, 1, 0, 3, 0, 1, 0, 2, 0, 1, 0, 5, 0, 1, 0, 2, 0, 1, 0, 3, 0, 1, 0, 2, 0, 1, 0, 4, 0, 1, 0, 2, 0, 1, 0, 3, 0, 1, 0, 2, 0, 1, 0]
def tzOK (r : Nat) : Bool := Nat.beq r 0 || (Nat.blt (tzt.getD r 0) 8 && Nat.testBit r (tzt.getD r 0) && (List.range 8).all fun c => (Nat.testBit (r &&& (r - 1)) c == (Nat.testBit r c && !(Nat.beq c (tzt.getD r 0)))) && (!(Nat.blt c (tzt.getD r 0)) || !(Nat.testBit r c)))
theorem tz_all : (List.range 256).all tzOK = true := by kernel_rfl
theorem tz_row (f : Nat → Bool) (h : bits f ≠ 0) : ∃ c, tzt.getD (bits f) 0 = c ∧ c < 8 ∧ f c = true ∧ (∀ y, y < c → f y = false) ∧ bits f &&& (bits f - 1) = bits fun y => f y && !(Nat.beq y c) := by
  have := (List.all_eq_true.1 tz_all) (bits f) (List.mem_range.2 (bits_lt f))
  unfold tzOK at this
  simp only [Bool.or_eq_true, Bool.and_eq_true, List.all_eq_true, List.mem_range, Bool.not_eq_true', beq_iff_eq] at this
  rcases this with h0 | ⟨⟨h1, h2⟩, h3⟩
  · exact absurd (Nat.eq_of_beq_eq_true h0) h
  · have h1 : tzt.getD (bits f) 0 < 8 := Nat.le_of_ble_eq_true h1
    refine ⟨_, rfl, h1, by rw [← bits_test f h1]; exact h2, fun y hy => ?_, ?_⟩
    · have := (h3 y (by omega)).2
      rcases this with h | h
      · have hb : Nat.blt y (tzt.getD (bits f) 0) = true := Nat.ble_eq_true_of_le hy
        rw [hb] at h; cases h
      · rw [← bits_test f (by omega)]; exact h
    · apply Nat.eq_of_testBit_eq
      intro y
      rcases Nat.lt_or_ge y 8 with hy | hy
      · rw [(h3 y hy).1, bits_test f hy, bits_test _ hy]
      · rw [Nat.testBit_and, bits_hi f hy, bits_hi _ hy]; rfl
end Go.Proofs.YtkbcdlabfbonoaaGreatDoor
