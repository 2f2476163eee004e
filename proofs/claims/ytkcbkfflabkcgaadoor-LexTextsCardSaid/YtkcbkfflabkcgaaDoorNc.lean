/-
  Plain law: an int's digits, a float's text, a name and a string within its marks are read as these. No program is in sight.
-/
import Derived.Test.YtkcbkfflabkcgaaDoorKc
import Derived.Test.YtkcbkfflabkcgaaDoorFx
namespace Go.Proofs.YtkcbkfflabkcgaaDoor
open Go

theorem far_run (p : UInt8 → Bool) : ∀ (d r : List UInt8), d.all p = true → (∀ c q, r = c :: q → p c = false) → ((d ++ r).takeWhile p).length = d.length
  | [], r, _, h => by
    rw [List.nil_append]
    cases r with
    | nil => rfl
    | cons c q => rw [List.takeWhile_cons, if_neg (by rw [h c q rfl]; decide)]
  | c :: d, r, hd, h => by
    rw [List.all_cons, Bool.and_eq_true] at hd
    rw [List.cons_append, List.takeWhile_cons, if_pos hd.1, List.length_cons, far_run p d r hd.2 h, List.length_cons]
theorem far_at (p : UInt8 → Bool) {b d r : List UInt8} (hd : d.all p = true) (h : ∀ c q, r = c :: q → p c = false) : far p (b ++ (d ++ r)) b.length = d.length := by
  unfold far
  rw [List.drop_left]
  exact far_run p d r hd h
theorem far_at0 (p : UInt8 → Bool) {d r : List UInt8} (hd : d.all p = true) (h : ∀ c q, r = c :: q → p c = false) : far p (d ++ r) 0 = d.length := by
  have := far_at p (b := []) hd h
  simpa using this
theorem far_all (p : UInt8 → Bool) {d : List UInt8} (hd : d.all p = true) : far p d 0 = d.length := by
  have := far_at0 p (r := []) hd (fun c q h => by cases h)
  simpa using this
theorem part_all0 (l : List UInt8) : part l 0 l.length = l := by
  unfold part
  rw [List.drop_zero, Nat.sub_zero, List.take_length]
theorem dig_bl {c : UInt8} (h : isDig c = true) : isBl c = false := by
  have h2 : 48 ≤ c.toNat ∧ c.toNat ≤ 57 := of_decide_eq_true h
  unfold isBl
  simp only [Bool.or_eq_false_iff, beq_eq_false_iff_ne]
  refine ⟨⟨⟨?_, ?_⟩, ?_⟩, ?_⟩ <;> rintro rfl <;> simp at h2
theorem let_bl {c : UInt8} (h : isLet c = true) : isBl c = false ∧ isDig c = false ∧ c ≠ 34 := by
  have h2 : 97 ≤ c.toNat ∧ c.toNat ≤ 122 := of_decide_eq_true h
  refine ⟨?_, ?_, ?_⟩
  · unfold isBl
    simp only [Bool.or_eq_false_iff, beq_eq_false_iff_ne]
    refine ⟨⟨⟨?_, ?_⟩, ?_⟩, ?_⟩ <;> rintro rfl <;> simp at h2
  · unfold isDig
    simp
    omega
  · rintro rfl; simp at h2
theorem next_zero {l r : List UInt8} {c : UInt8} (hl : l.length ≤ 2000) (h : l = c :: r) (hb : isBl c = false) :
    nextS l 0 = if (if isDig c then numS l 0 else if isLet c then nameS l 0 else if c = 34 then strS l 0 else signS l 0).2 = 0 then (if isDig c then numS l 0 else if isLet c then nameS l 0 else if c = 34 then strS l 0 else signS l 0) else (noTk, (if isDig c then numS l 0 else if isLet c then nameS l 0 else if c = 34 then strS l 0 else signS l 0).2) := by
  have h0 : 0 < l.length := by rw [h]; simp
  have hg : l.getD 0 0 = c := by rw [h]; rfl
  have hf : far isBl l 0 = 0 := far_stop isBl h0 (by rw [hg]; exact hb)
  have ht : tokS l 0 = if isDig c then numS l 0 else if isLet c then nameS l 0 else if c = 34 then strS l 0 else signS l 0 := by
    unfold tokS
    dsimp only
    rw [hf, if_neg (by omega), hg]
  unfold nextS
  rw [if_neg (by omega), Int.toNat_zero, ht]

theorem next_int (n : Nat) (hn : n < 9223372036854775808) : nextS (Lib.decDigits n) 0 = (⟨2, 0, (Lib.decDigits n).length, n, 0, []⟩, 0) := by
  obtain ⟨c, r, hc, hd⟩ := dec_head n
  obtain ⟨h1, h2, h3⟩ := dec_spec n
  have hlen := dec_short 18 n (by have : (10 : Nat) ^ 19 = 10000000000000000000 := by decide
                                  omega)
  have hnum : numS (Lib.decDigits n) 0 = (⟨2, 0, (Lib.decDigits n).length, n, 0, []⟩, 0) := by
    unfold numS
    dsimp only
    rw [far_all isDig h1, Nat.zero_add, List.getElem?_eq_none (Nat.le_refl _), if_neg (by simp), part_all0, h2, if_neg (by omega)]
  rw [next_zero (by omega) hc (dig_bl hd), if_pos hd, hnum]
  rfl

theorem numS_text {d ds : List UInt8} (neg : Bool) (h1 : d.all isDig = true) (h3 : ds.all isDig = true) (h4 : 1 ≤ ds.length) :
    numS (d ++ 112 :: ((if neg then [45] else []) ++ ds)) 0 = (⟨3, 0, (d ++ 112 :: ((if neg then [45] else []) ++ ds)).length, 0, (parseB (d ++ 112 :: ((if neg then [45] else []) ++ ds))).1, []⟩, (parseB (d ++ 112 :: ((if neg then [45] else []) ++ ds))).2) := by
  generalize hl : d ++ 112 :: ((if neg then [45] else []) ++ ds) = l
  have hf : far isDig l 0 = d.length := by
    rw [← hl]
    exact far_at0 isDig h1 (fun c q h => by cases h; decide)
  have h112 : l[0 + d.length]? = some 112 := by
    rw [← hl, Nat.zero_add, List.getElem?_append_right (Nat.le_refl _), Nat.sub_self]; rfl
  obtain ⟨x, xs, hx⟩ : ∃ x xs, ds = x :: xs := by
    cases ds with
    | nil => simp at h4
    | cons x xs => exact ⟨x, xs, rfl⟩
  have hxd : isDig x = true := by rw [hx, List.all_cons, Bool.and_eq_true] at h3; exact h3.1
  have hk : ∃ b, l = b ++ (ds ++ []) ∧ (if l[0 + d.length + 1]? = some 45 then 0 + d.length + 2 else 0 + d.length + 1) = b.length := by
    cases neg
    · refine ⟨d ++ [112], by rw [← hl]; simp, ?_⟩
      have : l[0 + d.length + 1]? = some x := by
        rw [← hl, Nat.zero_add, List.getElem?_append_right (by omega), hx, show d.length + 1 - d.length = 1 by omega]; rfl
      rw [this, if_neg (by intro e; cases e; exact absurd hxd (by decide))]
      simp
    · refine ⟨d ++ [112, 45], by rw [← hl]; simp, ?_⟩
      have : l[0 + d.length + 1]? = some 45 := by
        rw [← hl, Nat.zero_add, List.getElem?_append_right (by omega), show d.length + 1 - d.length = 1 by omega]; rfl
      rw [this, if_pos rfl]
      simp
  obtain ⟨b, hb1, hb2⟩ := hk
  have hfk : far isDig l b.length = ds.length := by
    conv => lhs; rw [hb1]
    exact far_at isDig h3 (fun c q h => by cases h)
  have hlb : b.length + ds.length = l.length := by rw [hb1]; simp
  unfold numS
  dsimp only
  rw [hf, if_pos h112, hb2, hfk, if_neg (by omega), hlb, part_all0]

theorem itoa_form (e : Int) : Lib.itoa e = (if decide (e < 0) then [45] else []) ++ Lib.decDigits e.natAbs := by
  by_cases h : e < 0
  · unfold Lib.itoa; rw [if_pos h, decide_eq_true h]
    rfl
  · unfold Lib.itoa; rw [if_neg h, decide_eq_false h]
    show _ = [] ++ _
    rw [List.nil_append]
    congr 1
    omega
theorem next_num {n : Nat} {e : Int} {l : List UInt8} (h : l = Lib.decDigits n ++ 112 :: Lib.itoa e) (hl : l.length ≤ 2000) {x : Nat} (hp : parseB l = (x, 0)) : ∃ z, nextS l 0 = (⟨3, 0, z, 0, x, []⟩, 0) := by
  obtain ⟨c, r, hc, hd⟩ := dec_head n
  have hl2 : l = c :: (r ++ 112 :: Lib.itoa e) := by rw [h, hc]; rfl
  have hn := numS_text (d := Lib.decDigits n) (ds := Lib.decDigits e.natAbs) (decide (e < 0)) (dec_spec n).1 (dec_spec _).1 (dec_spec _).2.2
  rw [← itoa_form, ← h, hp] at hn
  rw [next_zero hl hl2 (dig_bl hd), if_pos hd, hn]
  exact ⟨_, rfl⟩
theorem next_float {f : Nat} (hf : F64 f) (hl : (textB f).length ≤ 2000) (h : (textB f).getD 0 0 ≠ 45) : ∃ z, nextS (textB f) 0 = (⟨3, 0, z, 0, canon f, []⟩, 0) := by
  have hp := parse_text hf
  by_cases hn : Fl.isNaN f = true
  · have h1 : textB f = [110, 97, 110] := by unfold textB; rw [hn]; rfl
    have hnm : nameS [110, 97, 110] 0 = (⟨3, 0, 3, 0, (parseB [110, 97, 110]).1, []⟩, 0) := by rfl
    rw [h1] at hp hl ⊢
    rw [next_zero hl rfl (by rfl), if_neg (show ¬ isDig 110 = true by decide), if_pos (show isLet 110 = true from rfl), hnm, hp]
    exact ⟨_, rfl⟩
  · have hn' : Fl.isNaN f = false := by simpa using hn
    have hng : Fl.ng f = false := by
      cases hg : Fl.ng f
      · rfl
      · exfalso
        apply h
        unfold textB
        rw [hn', hg]
        rfl
    by_cases hi : Fl.rg f = 9218868437227405312
    · have h1 : textB f = [105, 110, 102] := by unfold textB; rw [hn', hng, if_pos hi]; rfl
      have hnm : nameS [105, 110, 102] 0 = (⟨3, 0, 3, 0, (parseB [105, 110, 102]).1, []⟩, 0) := by rfl
      rw [h1] at hp hl ⊢
      rw [next_zero hl rfl (by rfl), if_neg (show ¬ isDig 105 = true by decide), if_pos (show isLet 105 = true from rfl), hnm, hp]
      exact ⟨_, rfl⟩
    · by_cases h0 : Fl.rg f = 0
      · have e0 : Lib.decDigits 0 = [48] := by rw [Lib.decDigits]; rfl
        have e1 : Lib.itoa 0 = [48] := by unfold Lib.itoa; rw [if_neg (by omega), show (0 : Int).toNat = 0 from rfl, e0]
        have h1 : textB f = Lib.decDigits 0 ++ 112 :: Lib.itoa 0 := by
          unfold textB; rw [hn', hng, if_neg hi, if_pos h0, e0, e1]; rfl
        exact next_num h1 hl hp
      · have h1 : textB f = Lib.decDigits (txtN (Fl.rg f)) ++ 112 :: Lib.itoa (txtE (Fl.rg f)) := by
          unfold textB; rw [hn', hng, if_neg hi, if_neg h0]; rfl
        exact next_num h1 hl hp

/-- what may be a name -/
def nameB (l : List UInt8) : Bool := decide (1 ≤ l.length ∧ l.length ≤ 30) && isLet (l.getD 0 0) && l.all isNm
theorem next_name {l : List UInt8} (h : nameB l = true) (h1 : l ≠ [110, 97, 110]) (h2 : l ≠ [105, 110, 102]) : nextS l 0 = (⟨5, 0, l.length, 0, 0, l⟩, 0) := by
  unfold nameB at h
  simp only [Bool.and_eq_true, decide_eq_true_eq] at h
  obtain ⟨⟨⟨h3, h4⟩, h5⟩, h6⟩ := h
  obtain ⟨c, r, hc⟩ : ∃ c r, l = c :: r := by
    cases l with
    | nil => simp at h3
    | cons c r => exact ⟨c, r, rfl⟩
  have hg : l.getD 0 0 = c := by rw [hc]; rfl
  rw [hg] at h5
  obtain ⟨hb, hd, h34⟩ := let_bl h5
  have hn : nameS l 0 = (⟨5, 0, l.length, 0, 0, l⟩, 0) := by
    unfold nameS
    dsimp only
    rw [far_all isNm h6, Nat.zero_add, part_all0, if_neg (by rintro (e | e) <;> contradiction), if_neg (by omega)]
  rw [next_zero (by omega) hc hb, if_neg (show ¬ isDig c = true by rw [hd]; decide), if_pos h5, hn]
  rfl

def escB (c : UInt8) : List UInt8 := if c = 34 ∨ c = 92 then [92, c] else [c]
def quoteB (l : List UInt8) : List UInt8 := 34 :: (l.flatMap escB ++ [34])
theorem marks_esc_all : ∀ (l : List UInt8), inMarks (l.flatMap escB ++ [34]) = .ok (l, (l.flatMap escB).length + 1)
  | [] => rfl
  | c :: l => by
    have ih := marks_esc_all l
    rw [List.flatMap_cons, List.append_assoc]
    unfold escB
    by_cases h : c = 34 ∨ c = 92
    · rw [if_pos h]
      show inMarks (92 :: c :: (l.flatMap escB ++ [34])) = _
      rw [inMarks.eq_def]
      dsimp only
      rw [if_neg (by decide), if_pos rfl, if_pos h, ih]
      dsimp only
      congr 2
    · rw [if_neg h]
      show inMarks (c :: (l.flatMap escB ++ [34])) = _
      rw [inMarks.eq_def]
      dsimp only
      rw [if_neg (fun e => h (.inl e)), if_neg (fun e => h (.inr e)), ih]
      dsimp only
      congr 2
theorem quote_len (l : List UInt8) : (quoteB l).length ≤ 2 * l.length + 2 := by
  unfold quoteB
  have : (l.flatMap escB).length ≤ 2 * l.length := by
    induction l with
    | nil => simp
    | cons c l ih =>
      rw [List.flatMap_cons, List.length_append, List.length_cons]
      have : (escB c).length ≤ 2 := by unfold escB; split <;> simp
      omega
  rw [List.length_cons, List.length_append]
  show (l.flatMap escB).length + 1 + 1 ≤ _
  omega
theorem next_quote (l : List UInt8) (hl : l.length ≤ 900) : ∃ z, nextS (quoteB l) 0 = if 200 < l.length then (noTk, 3) else (⟨4, 0, z, 0, 0, l⟩, 0) := by
  have h1 := quote_len l
  have hs : strS (quoteB l) 0 = if 200 < l.length then (noTk, 3) else (⟨4, 0, 0 + 1 + ((l.flatMap escB).length + 1), 0, 0, l⟩, 0) := by
    have e : (quoteB l).drop (0 + 1) = l.flatMap escB ++ [34] := rfl
    unfold strS
    rw [e, marks_esc_all]
  refine ⟨0 + 1 + ((l.flatMap escB).length + 1), ?_⟩
  rw [next_zero (l := quoteB l) (c := 34) (r := l.flatMap escB ++ [34]) (by omega) rfl (by rfl), if_neg (show ¬ isDig 34 = true by decide), if_neg (show ¬ isLet 34 = true by decide), if_pos (show (34 : UInt8) = 34 from rfl), hs]
  by_cases h : 200 < l.length
  · rw [if_pos h]; rfl
  · rw [if_neg h]; rfl
end Go.Proofs.YtkcbkfflabkcgaaDoor
