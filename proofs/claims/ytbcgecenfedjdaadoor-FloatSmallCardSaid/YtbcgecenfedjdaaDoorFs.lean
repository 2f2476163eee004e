/-
  Plain law: whole numbers that are small enough, as floats: sums, differences, products. No program is in sight.
-/
import Derived.Test.YtbcgecenfedjdaaDoorFi
import Derived.Laws.Cover2
namespace Go.Proofs.YtbcgecenfedjdaaDoor
open Go Ieee

def fi (n : Int) : Nat := double.nearest (decide (n < 0)) n.natAbs 0
theorem fi_eq (n : Int) : floatOfInt .f64 n = fi n := rfl
theorem fi_F64 (n : Int) : F64 (fi n) := double.nearest_lt _ _ _

theorem near_spec (s : Bool) {N : Nat} (h : N ≤ 9007199254740992) : Fl.rg (double.nearest s N 0) < 9218868437227405312 ∧ Fl.ng (double.nearest s N 0) = s ∧ wholeM (Fl.rg (double.nearest s N 0)) = N := by
  have key : ∀ q : Nat, q < 9218868437227405312 → double.nearest s N 0 = double.word s q → Fl.M q = N * top → Fl.rg (double.nearest s N 0) < 9218868437227405312 ∧ Fl.ng (double.nearest s N 0) = s ∧ wholeM (Fl.rg (double.nearest s N 0)) = N := by
    intro q h1 h2 h3
    rw [h2, Fl.word_rg _ (by omega), Fl.word_ng _ (by omega)]
    refine ⟨h1, rfl, ?_⟩
    unfold wholeM; rw [h3, Nat.mul_div_cancel _ top_pos]
  by_cases h0 : N = 0
  · subst h0; exact key 0 (by omega) (Fl.nearest_zero _ _) (by rw [Fl.M_zero, Nat.zero_mul])
  · by_cases hlt : N < 9007199254740992
    · have hl := Fl.log2_lt53 h0 hlt
      obtain ⟨a1, a2⟩ := Fl.rungOf_spec (p := 0) h0 hlt (by omega)
      refine key _ (Fl.rungOf_fin h0 hlt (by omega) (by omega)) (Fl.nearest_fin _ h0 hlt (by omega) (by omega)) ?_
      have hla : Fl.lastOf N 0 ≤ 0 ∧ -1074 ≤ Fl.lastOf N 0 := by unfold Fl.lastOf; omega
      unfold Fl.M
      rw [a1, Nat.mul_assoc, top_join (by omega)]
    · have hN : N = 1 * 2 ^ 53 := by omega
      obtain ⟨a1, a2⟩ := Fl.rungOf_spec (m := 1) (p := 53) (by omega) (by omega) (by omega)
      have hl : Nat.log2 1 = 0 := by decide
      have e1 : double.nearest s N 0 = double.nearest s 1 53 := by rw [hN, nearest_shift]; rfl
      refine key (Fl.rungOf 1 53) (Fl.rungOf_fin (by omega) (by omega) (by omega) (by rw [hl]; omega)) (by rw [e1, Fl.nearest_fin _ (by omega) (by omega) (by omega) (by rw [hl]; omega)]) ?_
      have hla : Fl.lastOf 1 53 = 1 := by unfold Fl.lastOf; rw [hl]; rfl
      have hp : Fl.plc (Fl.rungOf 1 53) = 1075 := by rw [hla] at a2; omega
      unfold Fl.M
      rw [a1, hla, hp, hN, show (53 - (1 : Int)).toNat = 52 from rfl, Nat.one_mul, Nat.one_mul]
      have := top_over (p := 1075) (by omega)
      rw [this, ← Nat.mul_assoc, ← Nat.pow_add]
theorem near_toInt (s : Bool) {N : Nat} (h : N ≤ 9007199254740992) : toIntV (double.nearest s N 0) = (if s then -(N : Int) else N) ∧ toIntE (double.nearest s N 0) = 0 := by
  obtain ⟨h1, h2, h3⟩ := near_spec s h
  have hw : wholeI (double.nearest s N 0) = if s then -(N : Int) else N := by unfold wholeI; rw [h2, h3]
  have hc : Fl.rg (double.nearest s N 0) < 9218868437227405312 ∧ -9223372036854775808 ≤ wholeI (double.nearest s N 0) ∧ wholeI (double.nearest s N 0) < 9223372036854775808 := by
    refine ⟨h1, ?_, ?_⟩ <;> rw [hw] <;> split <;> omega
  unfold toIntV toIntE
  rw [if_pos hc, if_pos hc]; exact ⟨hw, rfl⟩
theorem near_nan (s : Bool) {N : Nat} (h : N ≤ 9007199254740992) : canon (double.nearest s N 0) = double.nearest s N 0 := by
  obtain ⟨h1, _, _⟩ := near_spec s h
  have : Fl.isNaN (double.nearest s N 0) = false := by unfold Fl.isNaN; simp; omega
  unfold canon; rw [if_neg (by rw [this]; decide)]

theorem read_nought : double.read 0 = .number false 0 (-1074) := by
  have r0 : Fl.rg 0 = 0 := by decide
  have m0 : Fl.mag 0 = 0 := by decide
  have p0 : Fl.plc 0 = 0 := by decide
  have n0 : Fl.ng 0 = false := by decide
  rw [Fl.read_fin (by rw [r0]; omega), r0, m0, p0, n0]; rfl
theorem neg_top : ∃ k : Nat, (-1074 : Int) = -(k : Int) := by
  obtain ⟨k, hk⟩ : ∃ k : Nat, k = 1074 := ⟨_, rfl⟩
  exact ⟨k, by omega⟩
theorem fi_zero : fi 0 = 0 := by
  unfold fi
  rw [show (0 : Int).natAbs = 0 from rfl, show decide ((0 : Int) < 0) = false from by decide, Fl.nearest_zero, word_false]
theorem read_noughtK : ∃ k : Nat, double.read 0 = .number false (0 * 2 ^ k) (-(k : Int)) := by
  obtain ⟨k, hk⟩ := neg_top
  exact ⟨k, by rw [read_nought, hk, Nat.zero_mul]⟩
theorem read_fi1 : ∃ k : Nat, double.read (fi 0) = .number false (0 * 2 ^ k) (-(k : Int)) := by
  rw [fi_zero]; exact read_noughtK
theorem read_fi0 : ∃ k : Nat, double.read (fi 0) = .number (decide ((0 : Int) < 0)) ((0 : Int).natAbs * 2 ^ k) (-(k : Int)) := by
  have := read_fi1
  exact this
/-- what is read of a small whole number -/
theorem read_fi {n : Int} (h : n.natAbs < 9007199254740992) : ∃ k : Nat, double.read (fi n) = .number (decide (n < 0)) (n.natAbs * 2 ^ k) (-(k : Int)) := by
  by_cases h0 : n = 0
  · subst h0
    exact read_fi0
  · have hN : n.natAbs ≠ 0 := by omega
    have hl := Fl.log2_lt53 hN h
    obtain ⟨a1, a2⟩ := Fl.rungOf_spec (p := 0) hN h (by omega)
    have hf := Fl.rungOf_fin (p := 0) hN h (by omega) (by omega)
    have hla : Fl.lastOf n.natAbs 0 ≤ 0 ∧ -1074 ≤ Fl.lastOf n.natAbs 0 := by unfold Fl.lastOf; omega
    refine ⟨(0 - Fl.lastOf n.natAbs 0).toNat, ?_⟩
    unfold fi
    rw [Fl.nearest_fin _ hN h (by omega) (by omega), Fl.read_fin (by rw [Fl.word_rg _ (by omega)]; exact hf), Fl.word_rg _ (by omega), Fl.word_ng _ (by omega), a1]
    have hpl : -1074 + (Fl.plc (Fl.rungOf n.natAbs 0) : Int) = -(((0 - Fl.lastOf n.natAbs 0).toNat : Nat) : Int) := by omega
    rw [hpl]

theorem signed_pow (n : Int) (k u : Nat) : signed (decide (n < 0)) (n.natAbs * 2 ^ k) u = n * ((2 ^ (k + u) : Nat) : Int) := by
  rw [Fl.signed_eq, Nat.mul_assoc, ← Nat.pow_add, Int.natCast_mul]
  by_cases h : n < 0
  · rw [decide_eq_true h, if_pos rfl, show ((n.natAbs : Nat) : Int) = -n from by omega, Int.neg_mul, Int.neg_neg]
  · rw [decide_eq_false h, show ((n.natAbs : Nat) : Int) = n from by omega]; rfl
theorem signed_npow (n : Int) (k u : Nat) : signed (!decide (n < 0)) (n.natAbs * 2 ^ k) u = -n * ((2 ^ (k + u) : Nat) : Int) := by
  rw [Fl.signed_eq, Nat.mul_assoc, ← Nat.pow_add, Int.natCast_mul]
  by_cases h : n < 0
  · rw [decide_eq_true h, show ((n.natAbs : Nat) : Int) = -n from by omega]; rfl
  · rw [decide_eq_false h, show ((n.natAbs : Nat) : Int) = n from by omega, Int.neg_mul]; rfl

theorem sum_core {x y z : Int} {k l : Nat} (s t : Bool) (hx : signed s (x.natAbs * 2 ^ k) (max k l - k) = x * ((2 ^ max k l : Nat) : Int)) (hy : signed t (y.natAbs * 2 ^ l) (max k l - l) = z * ((2 ^ max k l : Nat) : Int)) (hs : x + z = 0 → (s && t) = false) :
    ((Datum.number s (x.natAbs * 2 ^ k) (-(k : Int))).sum (Datum.number t (y.natAbs * 2 ^ l) (-(l : Int)))).map double.write = some (fi (x + z)) := by
  simp only [Datum.sum]
  have b1 : min (-(k : Int)) (-(l : Int)) = -((max k l : Nat) : Int) := by omega
  rw [b1, show (-(k : Int) - -((max k l : Nat) : Int)).toNat = max k l - k from by omega, show (-(l : Int) - -((max k l : Nat) : Int)).toNat = max k l - l from by omega, hx, hy, ← Int.add_mul]
  have hp : (0 : Int) < ((2 ^ max k l : Nat) : Int) := by have := Nat.two_pow_pos (max k l); omega
  generalize hq : max k l = q at *
  have hz : (x + z) * ((2 ^ q : Nat) : Int) = 0 ↔ x + z = 0 := by
    constructor
    · intro h; rcases Int.mul_eq_zero.1 h with h | h
      · exact h
      · omega
    · intro h; rw [h, Int.zero_mul]
  have hsg : (if (x + z) * ((2 ^ q : Nat) : Int) = 0 then (s && t) else decide ((x + z) * ((2 ^ q : Nat) : Int) < 0)) = decide (x + z < 0) := by
    by_cases h0 : x + z = 0
    · rw [if_pos (hz.2 h0), hs h0]; simp; omega
    · rw [if_neg (fun h => h0 (hz.1 h))]
      apply decide_eq_decide.2
      constructor
      · intro h; exact Int.lt_of_mul_lt_mul_right (by rw [Int.zero_mul]; exact h) (Int.le_of_lt hp)
      · intro h; have := Int.mul_lt_mul_of_pos_right h hp; rw [Int.zero_mul] at this; exact this
  rw [hsg]
  simp only [Option.map_some, Format.write]
  congr 1
  rw [Int.natAbs_mul, Int.natAbs_natCast, nearest_shift]
  unfold fi
  congr 1
  omega
theorem add_fi {a b : Int} (ha : a.natAbs < 9007199254740992) (hb : b.natAbs < 9007199254740992) : double.add (fi a) (fi b) = some (fi (a + b)) := by
  obtain ⟨k, e1⟩ := read_fi ha
  obtain ⟨l, e2⟩ := read_fi hb
  unfold Format.add
  rw [e1, e2]
  refine sum_core _ _ ?_ ?_ ?_
  · rw [signed_pow, show k + (max k l - k) = max k l from by omega]
  · rw [signed_pow, show l + (max k l - l) = max k l from by omega]
  · intro h; rw [Bool.and_eq_false_iff]; simp; omega
theorem sub_fi {a b : Int} (ha : a.natAbs < 9007199254740992) (hb : b.natAbs < 9007199254740992) : double.sub (fi a) (fi b) = some (fi (a - b)) := by
  obtain ⟨k, e1⟩ := read_fi ha
  obtain ⟨l, e2⟩ := read_fi hb
  unfold Format.sub
  rw [e1, e2]
  simp only [Datum.opposite]
  rw [Int.sub_eq_add_neg]
  refine sum_core (z := -b) _ _ ?_ ?_ ?_
  · rw [signed_pow, show k + (max k l - k) = max k l from by omega]
  · rw [signed_npow, show l + (max k l - l) = max k l from by omega]
  · intro h; rw [Bool.and_eq_false_iff]; simp; omega
theorem mul_fi {a b : Int} (ha : a.natAbs < 9007199254740992) (hb : b.natAbs < 9007199254740992) : double.mul (fi a) (fi b) = some (double.nearest (decide (a < 0) ^^ decide (b < 0)) (a * b).natAbs 0) := by
  obtain ⟨k, e1⟩ := read_fi ha
  obtain ⟨l, e2⟩ := read_fi hb
  unfold Format.mul
  rw [e1, e2]
  simp only [Datum.product, Option.map_some, Format.write]
  congr 1
  rw [show a.natAbs * 2 ^ k * (b.natAbs * 2 ^ l) = (a * b).natAbs * 2 ^ (k + l) from by rw [Int.natAbs_mul, Nat.pow_add, Nat.mul_mul_mul_comm], nearest_shift]
  congr 1
  omega

theorem sum_ints {a b : Int} (ha : a.natAbs ≤ 2147483648) (hb : b.natAbs ≤ 2147483648) :
    toIntV (addB (fi a) (fi b)) = a + b ∧ toIntE (addB (fi a) (fi b)) = 0 ∧ toIntV (subB (fi a) (fi b)) = a - b ∧ toIntE (subB (fi a) (fi b)) = 0 := by
  have h1 : addB (fi a) (fi b) = fi (a + b) := by
    unfold addB; rw [add_fi (by omega) (by omega)]; exact near_nan _ (by omega)
  have h2 : subB (fi a) (fi b) = fi (a - b) := by
    unfold subB; rw [sub_fi (by omega) (by omega)]; exact near_nan _ (by omega)
  have t1 := near_toInt (decide (a + b < 0)) (N := (a + b).natAbs) (by omega)
  have t2 := near_toInt (decide (a - b < 0)) (N := (a - b).natAbs) (by omega)
  rw [h1, h2]
  refine ⟨?_, t1.2, ?_, t2.2⟩
  · refine t1.1.trans ?_; by_cases h : a + b < 0 <;> simp [h] <;> omega
  · refine t2.1.trans ?_; by_cases h : a - b < 0 <;> simp [h] <;> omega
theorem mul_ints {a b : Int} (ha : a.natAbs ≤ 2147483648) (hb : b.natAbs ≤ 2147483648) (h : (a * b).natAbs ≤ 9007199254740992) :
    toIntV (mulB (fi a) (fi b)) = a * b ∧ toIntE (mulB (fi a) (fi b)) = 0 := by
  have h1 : mulB (fi a) (fi b) = double.nearest (decide (a < 0) ^^ decide (b < 0)) (a * b).natAbs 0 := by
    unfold mulB; rw [mul_fi (by omega) (by omega)]; exact near_nan _ h
  have t1 := near_toInt (decide (a < 0) ^^ decide (b < 0)) (N := (a * b).natAbs) h
  rw [h1]
  refine ⟨t1.1.trans ?_, t1.2⟩
  by_cases ga : a < 0
  · by_cases gb : b < 0
    · have := Int.mul_pos_of_neg_of_neg ga gb
      simp [ga, gb]; omega
    · have := Int.mul_nonpos_of_nonpos_of_nonneg (show a ≤ 0 by omega) (show 0 ≤ b by omega)
      simp [ga, gb]; omega
  · by_cases gb : b < 0
    · have := Int.mul_nonpos_of_nonneg_of_nonpos (show 0 ≤ a by omega) (show b ≤ 0 by omega)
      simp [ga, gb]; omega
    · have := Int.mul_nonneg (show 0 ≤ a by omega) (show 0 ≤ b by omega)
      simp [ga, gb]; omega
end Go.Proofs.YtbcgecenfedjdaaDoor
