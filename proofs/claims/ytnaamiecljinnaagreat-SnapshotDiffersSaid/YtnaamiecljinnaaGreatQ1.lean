/-
  Plain: numbers as bytes, seven bits each: read of bytes; written and read again.
-/
import Derived.Test.YtnaamiecljinnaaGreatV1
namespace Go.Proofs.YtnaamiecljinnaaGreat
open Go

/-- a number read, with so many bytes at most still to come -/
def rdUF : Nat → List UInt8 → Option (Nat × List UInt8)
  | 0, _ => none
  | _ + 1, [] => none
  | f + 1, b :: l => if (f = 0 ∧ 1 < b.toNat) ∨ (f < 9 ∧ b.toNat = 0) then none else if b.toNat < 128 then some (b.toNat, l) else
      match rdUF f l with
      | none => none
      | some r => some (b.toNat % 128 + 128 * r.1, r.2)
def rdU (l : List UInt8) : Option (Nat × List UInt8) := rdUF 10 l

theorem uintB_ne (f n : Nat) (h : 0 < f) : uintB f n ≠ [] := by
  obtain ⟨f, rfl⟩ : ∃ g, f = g + 1 := ⟨f - 1, by omega⟩
  rw [uintB]; split <;> simp
theorem uintB_len : ∀ (f n : Nat), (uintB f n).length ≤ f
  | 0, _ => by simp [uintB]
  | f + 1, n => by
    rw [uintB]; split
    · simp
    · have := uintB_len f (n / 128); simp; omega
theorem uintS_len (n : Nat) : (uintS n).length ≤ 10 := uintB_len 10 n
/-- what fuel f can write -/
theorem rdUF_enc : ∀ (f n : Nat) (r : List UInt8), f ≤ 9 → n < 2 * 128 ^ f → (f < 9 → 0 < n) → rdUF (f + 1) (uintB (f + 1) n ++ r) = some (n, r)
  | f, n, r, hf, hn, h0 => by
    rw [uintB]
    by_cases h1 : n < 128
    · rw [if_pos h1, List.singleton_append, rdUF]
      have e : (UInt8.ofNat n).toNat = n := by simp [UInt8.toNat_ofNat']; omega
      rw [e, if_neg, if_pos h1]
      rintro (⟨h2, h3⟩ | ⟨h2, h3⟩)
      · subst h2; simp at hn; omega
      · have := h0 h2; omega
    · rw [if_neg h1]
      have e : (UInt8.ofNat (n % 128 + 128)).toNat = n % 128 + 128 := by simp [UInt8.toNat_ofNat']; omega
      match f with
      | 0 => simp at hn; omega
      | f + 1 =>
        have ih := rdUF_enc f (n / 128) r (by omega) (by rw [Nat.pow_succ] at hn; omega) (fun _ => by omega)
        rw [List.cons_append, rdUF, e, if_neg (by omega), if_neg (by omega), ih]
        simp only [Option.some.injEq, Prod.mk.injEq, and_true]
        omega
theorem rdU_enc {n : Nat} (r : List UInt8) (h : n < 18446744073709551616) : rdU (uintS n ++ r) = some (n, r) :=
  rdUF_enc 9 n r (by omega) (by simpa using h) (fun h => by omega)
theorem rdUF_dec : ∀ (f : Nat) (l : List UInt8) (n : Nat) (r : List UInt8), f ≤ 9 → rdUF (f + 1) l = some (n, r) → l = uintB (f + 1) n ++ r ∧ n < 2 * 128 ^ f ∧ (f < 9 → 0 < n)
  | f, [], n, r, _, h => by rw [rdUF] at h; cases h
  | f, b :: l, n, r, hf, h => by
    rw [rdUF] at h
    have hb : b.toNat < 256 := b.toNat_lt
    split at h
    · cases h
    · rename_i h1
      split at h
      · rename_i h2
        simp only [Option.some.injEq, Prod.mk.injEq] at h
        obtain ⟨rfl, rfl⟩ := h
        refine ⟨?_, ?_, fun h3 => ?_⟩
        · rw [uintB, if_pos h2]; simp
        · have hp : 1 ≤ 128 ^ f := Nat.one_le_pow _ _ (by omega)
          match f with
          | 0 => simp; omega
          | f + 1 =>
            have : 1 ≤ 128 ^ f := Nat.one_le_pow _ _ (by omega)
            rw [Nat.pow_succ]; omega
        · omega
      · rename_i h2
        match f, h with
        | 0, h => exact absurd (Or.inl ⟨rfl, by omega⟩) h1
        | f + 1, h =>
          split at h
          · cases h
          · rename_i q hq
            obtain ⟨m, r'⟩ := q
            simp only [Option.some.injEq, Prod.mk.injEq] at h
            obtain ⟨rfl, rfl⟩ := h
            obtain ⟨h3, h4, h5⟩ := rdUF_dec f l m r' (by omega) hq
            have h5 := h5 (by omega)
            refine ⟨?_, ?_, fun _ => by omega⟩
            · rw [uintB, if_neg (by omega), h3, List.cons_append]
              congr 1
              · rw [← UInt8.toNat_inj]
                simp [UInt8.toNat_ofNat']
                omega
              · rw [show (b.toNat % 128 + 128 * m) / 128 = m by omega]
            · rw [Nat.pow_succ]; omega
theorem rdU_dec {l : List UInt8} {n : Nat} {r : List UInt8} (h : rdU l = some (n, r)) : l = uintS n ++ r ∧ n < 18446744073709551616 := by
  obtain ⟨h1, h2, _⟩ := rdUF_dec 9 l n r (by omega) h
  exact ⟨h1, by simpa using h2⟩
theorem rdUF_len : ∀ (f : Nat) (l : List UInt8) (n : Nat) (r : List UInt8), rdUF f l = some (n, r) → r.length < l.length
  | 0, l, n, r, h => by rw [rdUF] at h; cases h
  | f + 1, [], n, r, h => by rw [rdUF] at h; cases h
  | f + 1, b :: l, n, r, h => by
    rw [rdUF] at h
    split at h
    · cases h
    · split at h
      · simp only [Option.some.injEq, Prod.mk.injEq] at h; obtain ⟨_, rfl⟩ := h; simp
      · split at h
        · cases h
        · rename_i q hq
          obtain ⟨m, r'⟩ := q
          simp only [Option.some.injEq, Prod.mk.injEq] at h; obtain ⟨_, rfl⟩ := h
          have := rdUF_len f l m r' hq
          simp; omega
theorem uintB_more (f n : Nat) (h : n < 128) : ∀ g, uintB (f + 1) n = uintB (f + 1 + g) n := by
  intro g
  rw [uintB, if_pos h, show f + 1 + g = (f + g) + 1 by omega, uintB, if_pos h]
end Go.Proofs.YtnaamiecljinnaaGreat
