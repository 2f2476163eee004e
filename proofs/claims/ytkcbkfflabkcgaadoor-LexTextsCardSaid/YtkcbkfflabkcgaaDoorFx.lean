/-
  Plain law: a float's text is read again as that float. No program is in sight.
-/
import Derived.Test.YtkcbkfflabkcgaaDoorFq
import Derived.Test.YtkcbkfflabkcgaaDoorW6
namespace Go.Proofs.YtkcbkfflabkcgaaDoor
open Go Ieee

theorem dec_short : ∀ (k n : Nat), n < 10 ^ (k + 1) → (Lib.decDigits n).length ≤ k + 1
  | 0, n, h => by rw [Lib.decDigits, dif_pos (by simpa using h)]; simp
  | k + 1, n, h => by
    rw [Lib.decDigits]
    by_cases g : n < 10
    · rw [dif_pos g]; simp
    · rw [dif_neg g, List.length_append]
      have := dec_short k (n / 10) (by rw [Nat.pow_succ] at h; omega)
      simp only [List.length_cons, List.length_nil]; omega

theorem splitP_digs : ∀ (a b : List UInt8), a.all isDig = true → splitP (a ++ 112 :: b) = some (a, b)
  | [], b, _ => rfl
  | c :: a, b, h => by
    rw [List.all_cons, Bool.and_eq_true] at h
    have hc : c ≠ 112 := by intro e; subst e; exact absurd h.1 (by decide)
    rw [List.cons_append, splitP, if_neg hc, splitP_digs a b h.2]; rfl

theorem head_dig {l : List UInt8} {c : UInt8} {r : List UInt8} (h : l = c :: r) (hd : isDig c = true) : isNeg l = false ∧ unNeg l = l := by
  have hc : c ≠ 45 := by intro e; subst e; exact absurd hd (by decide)
  have h1 : isNeg l = false := by unfold isNeg; rw [h]; simp [hc]
  exact ⟨h1, by unfold unNeg; rw [h1]; rfl⟩
theorem itoa_split (e : Int) : isNeg (Lib.itoa e) = decide (e < 0) ∧ unNeg (Lib.itoa e) = Lib.decDigits e.natAbs := by
  by_cases h : e < 0
  · unfold Lib.itoa; rw [if_pos h, decide_eq_true h]
    exact ⟨rfl, rfl⟩
  · unfold Lib.itoa; rw [if_neg h, decide_eq_false h]
    obtain ⟨c, r, hc, hd⟩ := dec_head e.toNat
    obtain ⟨h1, h2⟩ := head_dig hc hd
    refine ⟨h1, ?_⟩
    rw [h2]; congr 1; omega

theorem rung_txt {r : Nat} (h0 : r ≠ 0) (h : r < 9218868437227405312) : Fl.rungOf (txtN r) (txtE r) = r := by
  obtain ⟨ho, hl, hr, hm⟩ := txt_bounds h0 h
  have hl2 := Fl.log2_lt53 (show txtN r ≠ 0 by omega) hl
  obtain ⟨a, b⟩ := Fl.rungOf_spec (p := txtE r) (show txtN r ≠ 0 by omega) hl hr.1
  apply Fl.M_inj
  unfold Fl.M
  have hla : Fl.lastOf (txtN r) (txtE r) ≤ txtE r := by have := hr.1; unfold Fl.lastOf; omega
  have hlb : -1074 ≤ Fl.lastOf (txtN r) (txtE r) := by unfold Fl.lastOf; omega
  rw [a, Nat.mul_assoc, ← Nat.pow_add]
  have e1 : (txtE r - Fl.lastOf (txtN r) (txtE r)).toNat + Fl.plc (Fl.rungOf (txtN r) (txtE r)) = tz (Fl.mag r) + Fl.plc r := by
    unfold txtE at *; omega
  rw [e1, Nat.pow_add, ← Nat.mul_assoc, hm]

theorem odd_self {n : Nat} (h : n % 2 = 1) (hl : n < 18446744073709551616) : odd n = n ∧ tz n = 0 := odd_of h (by simp) hl

theorem parse_num_text (s : Bool) (n : Nat) (e : Int) (hn : n ≤ 9007199254740992) (he : -9999 ≤ e ∧ e ≤ 9999) :
    parseB ((if s then [45] else []) ++ (Lib.decDigits n ++ 112 :: Lib.itoa e)) = (exB s n e, exE n e) := by
  obtain ⟨c, r, hc, hd⟩ := dec_head n
  have hl : isNeg ((if s then [45] else []) ++ (Lib.decDigits n ++ 112 :: Lib.itoa e)) = s ∧ unNeg ((if s then [45] else []) ++ (Lib.decDigits n ++ 112 :: Lib.itoa e)) = Lib.decDigits n ++ 112 :: Lib.itoa e := by
    cases s
    · exact head_dig (c := c) (r := r ++ 112 :: Lib.itoa e) (by rw [hc]; rfl) hd
    · exact ⟨rfl, rfl⟩
  have hne : ¬ ((if s then [45] else []) ++ (Lib.decDigits n ++ 112 :: Lib.itoa e) = [110, 97, 110]) := by
    intro h
    cases s
    · rw [hc] at h; simp only [Bool.false_eq_true, if_false, List.nil_append, List.cons_append, List.cons.injEq] at h
      rw [h.1] at hd; exact absurd hd (by decide)
    · simp only [if_true, List.cons_append, List.cons.injEq] at h; exact absurd h.1 (by decide)
  have hni : ¬ (Lib.decDigits n ++ 112 :: Lib.itoa e = [105, 110, 102]) := by
    intro h
    rw [hc] at h; simp only [List.cons_append, List.cons.injEq] at h
    rw [h.1] at hd; exact absurd hd (by decide)
  obtain ⟨hs1, hs2⟩ := itoa_split e
  have hd1 : digsOK (Lib.decDigits n) 20 = true := by
    unfold digsOK
    have := dec_len n (by omega)
    rw [(dec_spec n).1]; simp [(dec_spec n).2.2]; omega
  have hd2 : digsOK (Lib.decDigits e.natAbs) 4 = true := by
    unfold digsOK
    have := dec_short 3 e.natAbs (by omega)
    rw [(dec_spec _).1]; simp [(dec_spec e.natAbs).2.2]; omega
  unfold parseB
  rw [if_neg hne, hl.1, hl.2, if_neg hni, splitP_digs _ _ (dec_spec n).1]
  simp only
  rw [hs1, hs2, hd1, hd2, (dec_spec n).2.1, (dec_spec e.natAbs).2.1, if_pos (show (true && true) = true from rfl), if_neg (show ¬ 9007199254740992 < n by omega)]
  have hk : (if decide (e < 0) = true then -((e.natAbs : Nat) : Int) else (e.natAbs : Int)) = e := by
    by_cases h : e < 0
    · rw [if_pos (by simpa using h)]; omega
    · rw [if_neg (by simpa using h)]; omega
  rw [hk]

/-- what is written is read as it was -/
theorem parse_text {b : Nat} (hb : F64 b) : parseB (textB b) = (canon b, 0) := by
  by_cases hn : Fl.isNaN b = true
  · have h1 : textB b = [110, 97, 110] := by unfold textB; rw [hn]; rfl
    have h2 : canon b = 9221120237041090560 := by unfold canon; rw [hn]; rfl
    rw [h1, h2]; rfl
  · have hn' : Fl.isNaN b = false := by simpa using hn
    have hle := nan_lt hn'
    have hcan : canon b = b := by unfold canon; rw [if_neg (by rw [hn']; decide)]
    have hw := Fl.word_of hb
    rw [hcan]
    by_cases hi : Fl.rg b = 9218868437227405312
    · have h1 : textB b = (if Fl.ng b then [45] else []) ++ [105, 110, 102] := by unfold textB; rw [hn', if_pos hi]; rfl
      rw [hi] at hw
      rw [h1]
      cases hg : Fl.ng b
      · rw [hg] at hw; rw [← hw]; rfl
      · rw [hg] at hw; rw [← hw]; rfl
    · by_cases h0 : Fl.rg b = 0
      · have e0 : Lib.decDigits 0 = [48] := by rw [Lib.decDigits]; rfl
        have e1 : Lib.itoa 0 = [48] := by unfold Lib.itoa; rw [if_neg (by omega), show (0 : Int).toNat = 0 from rfl, e0]
        have h1 : textB b = (if Fl.ng b then [45] else []) ++ (Lib.decDigits 0 ++ 112 :: Lib.itoa 0) := by
          unfold textB; rw [hn', if_neg hi, if_pos h0, e0, e1]; rfl
        rw [h1, parse_num_text _ _ _ (by omega) (by omega)]
        rw [h0] at hw
        unfold exB exE; rw [if_pos rfl, if_pos rfl, hw]
      · obtain ⟨ho, hl, hr, _⟩ := txt_bounds h0 (show Fl.rg b < 9218868437227405312 by omega)
        have h1 : textB b = (if Fl.ng b then [45] else []) ++ (Lib.decDigits (txtN (Fl.rg b)) ++ 112 :: Lib.itoa (txtE (Fl.rg b))) := by
          unfold textB; rw [hn', if_neg hi, if_neg h0]; rfl
        have h1a := hr.1; have h1b := hr.2
        rw [h1, parse_num_text _ _ _ (by omega) (by omega)]
        obtain ⟨o1, o2⟩ := odd_self ho (by omega)
        unfold exB exE
        have hnz : ¬ txtN (Fl.rg b) = 0 := by omega
        rw [if_neg hnz, if_neg hnz, o1, o2, show txtE (Fl.rg b) + ((0 : Nat) : Int) = txtE (Fl.rg b) from by omega, if_pos hr, if_pos hr, rung_txt h0 (by omega), hw]
end Go.Proofs.YtkcbkfflabkcgaaDoor
