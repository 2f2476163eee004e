/-
  Plain law: decimal numerals: what digits stand for, and that a float's text tells its odd number and its place. No program is in sight.
-/
import Derived.Lib.ItoaNum
namespace Go.Proofs.YtnaamiecljinnaaGreat
open Go

def isDig (c : UInt8) : Bool := decide (48 ≤ c.toNat ∧ c.toNat ≤ 57)
def digsOK (l : List UInt8) (most : Nat) : Bool := l.all isDig && (decide (1 ≤ l.length) && decide (l.length ≤ most))
/-- what digits stand for -/
def decVal (l : List UInt8) : Nat := l.foldl (fun a c => a * 10 + (c.toNat - 48)) 0

theorem decVal_snoc (l : List UInt8) (c : UInt8) : decVal (l ++ [c]) = decVal l * 10 + (c.toNat - 48) := by
  unfold decVal; rw [List.foldl_append]; rfl
theorem dig_ofNat {d : Nat} (h : d < 10) : (UInt8.ofNat (48 + d)).toNat = 48 + d := by
  rw [UInt8.toNat_ofNat']; omega
theorem dec_spec (n : Nat) : (Lib.decDigits n).all isDig = true ∧ decVal (Lib.decDigits n) = n ∧ 1 ≤ (Lib.decDigits n).length := by
  induction n using Nat.strongRecOn with
  | ind n ih =>
    rw [Lib.decDigits]
    by_cases h : n < 10
    · rw [dif_pos h]
      have e := dig_ofNat h
      refine ⟨?_, ?_, by simp⟩
      · simp only [List.all_cons, List.all_nil, Bool.and_true, isDig]
        rw [e]; simp; omega
      · simp only [decVal, List.foldl_cons, List.foldl_nil]
        rw [e]; omega
    · rw [dif_neg h]
      obtain ⟨i1, i2, _⟩ := ih (n / 10) (by omega)
      have e := dig_ofNat (show n % 10 < 10 by omega)
      refine ⟨?_, ?_, by simp⟩
      · rw [List.all_append, i1]
        simp only [List.all_cons, List.all_nil, Bool.and_true, Bool.true_and, isDig]
        rw [e]; simp; omega
      · rw [decVal_snoc, i2, e]; omega
theorem dec_inj {a b : Nat} (h : Lib.decDigits a = Lib.decDigits b) : a = b := by
  have := congrArg decVal h
  rwa [(dec_spec a).2.1, (dec_spec b).2.1] at this

theorem split_at {a b c d : List UInt8} {x : UInt8} (ha : a.all isDig = true) (hb : b.all isDig = true) (hx : isDig x = false) (h : a ++ x :: c = b ++ x :: d) : a = b ∧ c = d := by
  induction a generalizing b with
  | nil =>
    cases b with
    | nil => simpa using h
    | cons y b =>
      simp only [List.nil_append, List.cons_append, List.cons.injEq] at h
      rw [List.all_cons, ← h.1, hx] at hb; cases hb
  | cons y a ih =>
    cases b with
    | nil =>
      simp only [List.nil_append, List.cons_append, List.cons.injEq] at h
      rw [List.all_cons, h.1, hx] at ha; cases ha
    | cons z b =>
      simp only [List.cons_append, List.cons.injEq] at h
      rw [List.all_cons, Bool.and_eq_true] at ha hb
      obtain ⟨e1, e2⟩ := ih ha.2 hb.2 h.2
      exact ⟨by rw [h.1, e1], e2⟩
theorem dec_head (n : Nat) : ∃ c r, Lib.decDigits n = c :: r ∧ isDig c = true := by
  obtain ⟨h1, _, h3⟩ := dec_spec n
  cases hd : Lib.decDigits n with
  | nil => rw [hd] at h3; simp at h3
  | cons c r => rw [hd, List.all_cons, Bool.and_eq_true] at h1; exact ⟨c, r, rfl, h1.1⟩
theorem itoa_inj {e f : Int} (h : Lib.itoa e = Lib.itoa f) : e = f := by
  unfold Lib.itoa at h
  split at h <;> split at h
  · have := dec_inj (List.cons.inj h).2; omega
  · obtain ⟨c, r, hc, hd⟩ := dec_head f.toNat
    rw [hc, List.cons.injEq] at h
    rw [← h.1] at hd; cases hd
  · obtain ⟨c, r, hc, hd⟩ := dec_head e.toNat
    rw [hc, List.cons.injEq] at h
    rw [h.1] at hd; cases hd
  · have := dec_inj h; omega
/-- a text of an odd number and a place tells these -/
theorem txt_inj {a b : Nat} {e f : Int} (h : Lib.decDigits a ++ 112 :: Lib.itoa e = Lib.decDigits b ++ 112 :: Lib.itoa f) : a = b ∧ e = f := by
  obtain ⟨h1, h2⟩ := split_at (dec_spec a).1 (dec_spec b).1 (by decide) h
  exact ⟨dec_inj h1, itoa_inj h2⟩
end Go.Proofs.YtnaamiecljinnaaGreat
