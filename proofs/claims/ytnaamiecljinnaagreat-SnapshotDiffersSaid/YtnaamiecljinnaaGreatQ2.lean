/-
  Plain: values read of bytes; written and read again.
-/
import Derived.Test.YtnaamiecljinnaaGreatQ1
namespace Go.Proofs.YtnaamiecljinnaaGreat
open Go

def zag (n : Nat) : Int := if n % 2 = 1 then -1 - ((n / 2 : Nat) : Int) else ((n / 2 : Nat) : Int)
def beN (l : List UInt8) : Nat := l.foldl (fun a c => a * 256 + c.toNat) 0
def rdStr (most : Nat) (l : List UInt8) : Option (List UInt8 × List UInt8) :=
  match rdU l with
  | none => none
  | some r => if most < r.1 ∨ r.2.length < r.1 then none else some (r.2.take r.1, r.2.drop r.1)
def rdInt (l : List UInt8) : Option (Int × List UInt8) :=
  match rdU l with
  | none => none
  | some r => some (zag r.1, r.2)
def rdFlt (l : List UInt8) : Option (Nat × List UInt8) :=
  if l.length < 8 then none else if canon (beN (l.take 8)) = beN (l.take 8) then some (beN (l.take 8), l.drop 8) else none
def rdBool : List UInt8 → Option (Int × List UInt8)
  | [] => none
  | b :: l => if b.toNat ≤ 1 then some ((b.toNat : Int), l) else none
/-- names and items, so many -/
def rdItems (rv : Nat → List UInt8 → Option (VT × Nat × List UInt8)) (named : Bool) : Nat → Nat → List UInt8 → Option (List (List UInt8) × List VT × Nat × List UInt8)
  | 0, p, l => some ([], [], p, l)
  | n + 1, p, l =>
    match (if named then rdStr 30 l else some ([], l)) with
    | none => none
    | some a =>
      match rv p a.2 with
      | none => none
      | some b =>
        match rdItems rv named n b.2.1 b.2.2 with
        | none => none
        | some c => some (if named then a.1 :: c.1 else c.1, b.1 :: c.2.1, c.2.2)
/-- a value, so many deep at most, p parts begun -/
def rdV : Nat → Nat → List UInt8 → Option (VT × Nat × List UInt8)
  | 0, _, _ => none
  | f + 1, p, l =>
    if 200 ≤ p then none else
      match l with
      | [] => none
      | k :: l =>
        if k.toNat = 1 then (match rdBool l with | none => none | some r => some (.mk 1 r.1 0 [] [] [], p + 1, r.2))
        else if k.toNat = 2 then (match rdInt l with | none => none | some r => some (.mk 2 r.1 0 [] [] [], p + 1, r.2))
        else if k.toNat = 3 then (match rdFlt l with | none => none | some r => some (.mk 3 0 r.1 [] [] [], p + 1, r.2))
        else if k.toNat = 4 then (match rdStr 200 l with | none => none | some r => some (.mk 4 0 0 r.1 [] [], p + 1, r.2))
        else if k.toNat = 5 ∨ k.toNat = 6 then
          match rdU l with
          | none => none
          | some r => if 200 < r.1 then none else
              match rdItems (rdV f) (decide (k.toNat = 6)) r.1 (p + 1) r.2 with
              | none => none
              | some c => some (.mk (k.toNat : Nat) 0 0 [] c.1 c.2.1, c.2.2)
        else none
/-- a right value -/
def rdVal (l : List UInt8) : Option (VT × List UInt8) :=
  match rdV 12 0 l with
  | none => none
  | some r => if rightB r.1 then some (r.1, r.2.2) else none

mutual
def psz : VT → Nat
  | .mk _ _ _ _ _ its => pszL its + 1
def pszL : List VT → Nat
  | [] => 0
  | x :: xs => psz x + pszL xs
end
mutual
def canV : VT → VT
  | .mk k n f s ns its => .mk k n (canon f) s ns (canL its)
def canL : List VT → List VT
  | [] => []
  | x :: xs => canV x :: canL xs
end
mutual
/-- whose numbers are within their bounds -/
def inV : VT → Prop
  | .mk k n f _ _ its => (-9223372036854775808 ≤ k ∧ k ≤ 9223372036854775807) ∧ (-9223372036854775808 ≤ n ∧ n ≤ 9223372036854775807) ∧ f < 18446744073709551616 ∧ inL its
def inL : List VT → Prop
  | [] => True
  | x :: xs => inV x ∧ inL xs
end
theorem canL_length : ∀ l : List VT, (canL l).length = l.length
  | [] => rfl
  | x :: xs => by rw [canL, List.length_cons, canL_length xs, List.length_cons]
theorem pszL_ge : ∀ l : List VT, l.length ≤ pszL l
  | [] => Nat.zero_le _
  | .mk _ _ _ _ _ _ :: xs => by
    have := pszL_ge xs
    rw [pszL, psz, List.length_cons]; omega
mutual
theorem countV_psz : ∀ (v : VT) (n : Nat), n < 500 → countV v n = min 500 (n + psz v)
  | .mk _ _ _ _ _ its, n, h => by
    have := countL_psz its (n + 1) (by omega)
    rw [countV, psz, this]
    congr 1; omega
theorem countL_psz : ∀ (l : List VT) (n : Nat), n ≤ 500 → countL l n = min 500 (n + pszL l)
  | [], n, h => by rw [countL, pszL]; omega
  | x :: xs, n, h => by
    rw [countL, pszL]
    by_cases hn : 500 ≤ n
    · rw [if_pos hn]; omega
    · rw [if_neg hn]
      have h1 := countV_psz x n (by omega)
      have h2 := countL_psz xs (countV x n) (by omega)
      rw [h2, h1]; omega
end
theorem rightB_iff (v : VT) : rightB v = true ↔ psz v ≤ 200 ∧ rightV v 12 = true := by
  unfold rightB
  rw [Bool.and_eq_true, decide_eq_true_eq, countV_psz v 0 (by omega)]
  constructor
  · rintro ⟨h1, h2⟩; exact ⟨by omega, h2⟩
  · rintro ⟨h1, h2⟩; exact ⟨by omega, h2⟩

theorem zig_zag (n : Nat) : zig (zag n) = n := by
  unfold zig zag
  split
  · rw [if_pos (by omega)]; omega
  · rw [if_neg (by omega)]; omega
theorem zag_zig (n : Int) : zag (zig n) = n := by
  unfold zig zag
  split
  · rw [if_pos (by omega)]; omega
  · rw [if_neg (by omega)]; omega
theorem zag_in {n : Nat} (h : n < 18446744073709551616) : -9223372036854775808 ≤ zag n ∧ zag n ≤ 9223372036854775807 := by
  unfold zag; split <;> omega
theorem zig_lt {n : Int} (h : -9223372036854775808 ≤ n ∧ n ≤ 9223372036854775807) : zig n < 18446744073709551616 := by
  unfold zig; split <;> omega
theorem beN_snoc (l : List UInt8) (c : UInt8) : beN (l ++ [c]) = beN l * 256 + c.toNat := by
  unfold beN; rw [List.foldl_append]; rfl
theorem u8_nat (n : Nat) : (UInt8.ofNat (n % 256)).toNat = n % 256 := by simp [UInt8.toNat_ofNat']
theorem fltE_len (b : Nat) : (fltE b).length = 8 := rfl
theorem beN_fltE (b : Nat) (h : b < 18446744073709551616) : beN (fltE b) = b := by
  show ((((((((0 * 256 + (UInt8.ofNat (b / 2 ^ 56 % 256)).toNat) * 256 + (UInt8.ofNat (b / 2 ^ 48 % 256)).toNat) * 256 + (UInt8.ofNat (b / 2 ^ 40 % 256)).toNat) * 256 + (UInt8.ofNat (b / 2 ^ 32 % 256)).toNat) * 256 + (UInt8.ofNat (b / 2 ^ 24 % 256)).toNat) * 256 + (UInt8.ofNat (b / 2 ^ 16 % 256)).toNat) * 256 + (UInt8.ofNat (b / 2 ^ 8 % 256)).toNat) * 256 + (UInt8.ofNat (b / 2 ^ 0 % 256)).toNat) = b
  simp only [u8_nat]
  omega
theorem u8_of {c : UInt8} {n : Nat} (h : n = c.toNat) : UInt8.ofNat n = c := by rw [h]; simp
theorem fltE_beN : ∀ l : List UInt8, l.length = 8 → fltE (beN l) = l
  | [a, b, c, d, e, f, g, h], _ => by
    have ha := a.toNat_lt; have hb := b.toNat_lt; have hc := c.toNat_lt; have hd := d.toNat_lt
    have he := e.toNat_lt; have hf := f.toNat_lt; have hg := g.toNat_lt; have hh := h.toNat_lt
    have hN : beN [a, b, c, d, e, f, g, h] = (((((((a.toNat * 256 + b.toNat) * 256 + c.toNat) * 256 + d.toNat) * 256 + e.toNat) * 256 + f.toNat) * 256 + g.toNat) * 256 + h.toNat) := by
      show (((((((0 * 256 + a.toNat) * 256 + b.toNat) * 256 + c.toNat) * 256 + d.toNat) * 256 + e.toNat) * 256 + f.toNat) * 256 + g.toNat) * 256 + h.toNat = _
      omega
    rw [hN]
    simp only [fltE, List.map_cons, List.map_nil]
    rw [u8_of (c := a) (by omega), u8_of (c := b) (by omega), u8_of (c := c) (by omega), u8_of (c := d) (by omega), u8_of (c := e) (by omega), u8_of (c := f) (by omega), u8_of (c := g) (by omega), u8_of (c := h) (by omega)]
theorem beN_lt : ∀ l : List UInt8, l.length = 8 → beN l < 18446744073709551616
  | [a, b, c, d, e, f, g, h], _ => by
    have ha := a.toNat_lt; have hb := b.toNat_lt; have hc := c.toNat_lt; have hd := d.toNat_lt
    have he := e.toNat_lt; have hf := f.toNat_lt; have hg := g.toNat_lt; have hh := h.toNat_lt
    show (((((((0 * 256 + a.toNat) * 256 + b.toNat) * 256 + c.toNat) * 256 + d.toNat) * 256 + e.toNat) * 256 + f.toNat) * 256 + g.toNat) * 256 + h.toNat < _
    omega
theorem canon_zero {f : Nat} (h : canon f = 0) : f = 0 := by
  unfold canon at h
  split at h
  · exact absurd h (by decide)
  · exact h
theorem rdStr_enc {most : Nat} (s r : List UInt8) (h : s.length ≤ most) (hm : s.length < 18446744073709551616) : rdStr most (strE s ++ r) = some (s, r) := by
  unfold rdStr strE
  rw [List.append_assoc, rdU_enc _ hm]
  simp only [List.length_append]
  rw [if_neg (by omega), List.take_left' rfl, List.drop_left' rfl]
theorem rdStr_dec {most : Nat} {l s r : List UInt8} (h : rdStr most l = some (s, r)) : l = strE s ++ r ∧ s.length ≤ most := by
  unfold rdStr at h
  split at h
  · cases h
  · rename_i q hq
    obtain ⟨n, t⟩ := q
    dsimp only at h
    split at h
    · cases h
    · rename_i h1
      simp only [Option.some.injEq, Prod.mk.injEq] at h
      obtain ⟨rfl, rfl⟩ := h
      obtain ⟨h2, _⟩ := rdU_dec hq
      have h3 : (t.take n).length = n := by rw [List.length_take]; omega
      refine ⟨?_, by omega⟩
      unfold strE
      rw [h3, List.append_assoc, List.take_append_drop, h2]
theorem nmB_len {s : List UInt8} (h : nmB s = true) : s.length ≤ 30 := by
  unfold nmB at h
  rw [Bool.and_eq_true, Bool.and_eq_true, decide_eq_true_eq] at h
  exact h.1.1.2
theorem rises_len : ∀ {l : List (List UInt8)}, risesB l = true → ∀ s ∈ l, s.length ≤ 30
  | [], _, s, hs => by cases hs
  | [a], h, s, hs => by
    rw [risesB] at h
    simp only [List.mem_singleton] at hs
    subst hs; exact nmB_len h
  | a :: b :: l, h, s, hs => by
    rw [risesB, Bool.and_eq_true, Bool.and_eq_true] at h
    rcases List.mem_cons.1 hs with rfl | hs
    · exact nmB_len h.1.1
    · exact rises_len h.2 s hs
end Go.Proofs.YtnaamiecljinnaaGreat
