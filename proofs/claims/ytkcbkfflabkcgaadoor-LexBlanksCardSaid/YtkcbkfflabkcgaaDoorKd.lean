/-
  Plain law: a text's tokens, one behind the other. No program is in sight.
-/
import Derived.Test.YtkcbkfflabkcgaaDoorKb
namespace Go.Proofs.YtkcbkfflabkcgaaDoor
open Go

theorem marks_len : ∀ (n : Nat) (l : List UInt8), l.length ≤ n → ∀ w k, inMarks l = .ok (w, k) → 1 ≤ k ∧ k ≤ l.length
  | 0, l, hl, w, k, h => by
    have : l = [] := List.length_eq_zero_iff.1 (by omega)
    subst this
    cases h
  | n + 1, l, hl, w, k, h => by
    rcases l with _ | ⟨c, r⟩
    · cases h
    · rw [inMarks.eq_def] at h
      dsimp only at h
      by_cases h1 : c = 34
      · rw [if_pos h1] at h
        cases h
        simp
      · rw [if_neg h1] at h
        by_cases h2 : c = 92
        · rw [if_pos h2] at h
          rcases r with _ | ⟨d, q⟩
          · cases h
          · dsimp only at h
            by_cases h3 : d = 34 ∨ d = 92
            · rw [if_pos h3] at h
              cases hm : inMarks q with
              | error e => rw [hm] at h; cases h
              | ok x =>
                rw [hm] at h
                cases h
                have := marks_len n q (by simp at hl; omega) x.1 x.2 hm
                simp; omega
            · rw [if_neg h3] at h; cases h
        · rw [if_neg h2] at h
          cases hm : inMarks r with
          | error e => rw [hm] at h; cases h
          | ok x =>
            rw [hm] at h
            cases h
            have := marks_len n r (by simp at hl; omega) x.1 x.2 hm
            simp; omega

theorem marks_no0 : ∀ (n : Nat) (l : List UInt8), l.length ≤ n → inMarks l ≠ .error 0
  | 0, l, hl, h => by
    have : l = [] := List.length_eq_zero_iff.1 (by omega)
    subst this
    cases h
  | n + 1, l, hl, h => by
    rcases l with _ | ⟨c, r⟩
    · cases h
    · rw [inMarks.eq_def] at h
      dsimp only at h
      by_cases h1 : c = 34
      · rw [if_pos h1] at h
        cases h
      · rw [if_neg h1] at h
        by_cases h2 : c = 92
        · rw [if_pos h2] at h
          rcases r with _ | ⟨d, q⟩
          · cases h
          · dsimp only at h
            by_cases h3 : d = 34 ∨ d = 92
            · rw [if_pos h3] at h
              cases hm : inMarks q with
              | error e =>
                rw [hm] at h
                cases h
                exact marks_no0 n q (by simp at hl; omega) hm
              | ok x => rw [hm] at h; cases h
            · rw [if_neg h3] at h; cases h
        · rw [if_neg h2] at h
          cases hm : inMarks r with
          | error e =>
            rw [hm] at h
            cases h
            exact marks_no0 n r (by simp at hl; omega) hm
          | ok x => rw [hm] at h; cases h

theorem at_get {l : List UInt8} {a : Nat} (h : a < l.length) : l[a]? = some (l.getD a 0) := by
  simp [List.getD, h]
/-- what a token that was read is like -/
structure Good (l : List UInt8) (a : Nat) (k : Tk) : Prop where
  pos : k.pos = a
  lt : a < k.next
  le : k.next ≤ l.length
  kind : k.kind ≠ 1
theorem numS_good {l : List UInt8} {a : Nat} (ha : a < l.length) (hd : isDig (l.getD a 0) = true) (h : (numS l a).2 = 0) : Good l a (numS l a).1 := by
  have hf := far_go isDig ha hd
  have hle := far_le isDig l (a := a) (by omega)
  revert h
  unfold numS
  dsimp only
  split
  · rename_i hp
    have hi : a + far isDig l a < l.length := by
      rcases Nat.lt_or_ge (a + far isDig l a) l.length with g | g
      · exact g
      · rw [List.getElem?_eq_none g] at hp; cases hp
    split
    · rename_i hm
      have hi : a + far isDig l a + 1 < l.length := by
        rcases Nat.lt_or_ge (a + far isDig l a + 1) l.length with g | g
        · exact g
        · rw [List.getElem?_eq_none g] at hm; cases hm
      have hle2 := far_le isDig l (a := a + far isDig l a + 2) (by omega)
      split
      · intro h; cases h
      · intro _
        exact ⟨rfl, by show a < a + far isDig l a + 2 + _; omega, hle2, by show (3 : Int) ≠ 1; decide⟩
    · have hle2 := far_le isDig l (a := a + far isDig l a + 1) (by omega)
      split
      · intro h; cases h
      · intro _
        exact ⟨rfl, by show a < a + far isDig l a + 1 + _; omega, hle2, by show (3 : Int) ≠ 1; decide⟩
  · split
    · intro h; cases h
    · intro _
      exact ⟨rfl, by show a < a + far isDig l a; omega, hle, by show (2 : Int) ≠ 1; decide⟩
theorem nameS_good {l : List UInt8} {a : Nat} (ha : a < l.length) (hd : isNm (l.getD a 0) = true) (h : (nameS l a).2 = 0) : Good l a (nameS l a).1 := by
  have hf := far_go isNm ha hd
  have hle := far_le isNm l (a := a) (by omega)
  revert h
  unfold nameS
  dsimp only
  split
  · intro _
    exact ⟨rfl, by show a < a + far isNm l a; omega, hle, by show (3 : Int) ≠ 1; decide⟩
  · split
    · intro h; cases h
    · intro _
      exact ⟨rfl, by show a < a + far isNm l a; omega, hle, by show (5 : Int) ≠ 1; decide⟩
theorem strS_good {l : List UInt8} {a : Nat} (ha : a < l.length) (h : (strS l a).2 = 0) : Good l a (strS l a).1 := by
  revert h
  unfold strS
  cases hm : inMarks (l.drop (a + 1)) with
  | error e =>
    dsimp only
    intro h
    exfalso
    revert hm
    rw [h]
    intro hm
    exact absurd hm (marks_no0 _ _ (Nat.le_refl _))
  | ok x =>
    obtain ⟨w, n⟩ := x
    have hn := marks_len _ _ (Nat.le_refl _) w n hm
    rw [List.length_drop] at hn
    dsimp only
    split
    · intro h; cases h
    · intro _
      exact ⟨rfl, by show a < a + 1 + n; omega, by show a + 1 + n ≤ _; omega, by show (4 : Int) ≠ 1; decide⟩
theorem signS_good {l : List UInt8} {a : Nat} (ha : a < l.length) (h : (signS l a).2 = 0) : Good l a (signS l a).1 := by
  revert h
  unfold signS
  split
  · rename_i h2
    intro _
    have := two_len h2
    exact ⟨rfl, by show a < a + 2; omega, this, by show (6 : Int) ≠ 1; decide⟩
  · split
    · intro _
      exact ⟨rfl, by show a < a + 1; omega, by show a + 1 ≤ _; omega, by show (6 : Int) ≠ 1; decide⟩
    · intro h; cases h
/-- the text's end, a token, or an error -/
theorem tok_cases {l : List UInt8} {b : Nat} (hb : b ≤ l.length) (h : (tokS l b).2 = 0) :
    (b + far isBl l b = l.length ∧ tokS l b = (⟨1, l.length, l.length, 0, 0, []⟩, 0)) ∨ (b + far isBl l b < l.length ∧ Good l (b + far isBl l b) (tokS l b).1) := by
  have hle := far_le isBl l hb
  revert h
  unfold tokS
  dsimp only
  generalize b + far isBl l b = a at *
  by_cases h1 : a = l.length
  · rw [if_pos h1]
    intro _
    exact .inl ⟨h1, by rw [h1]⟩
  · rw [if_neg h1]
    have ha : a < l.length := by omega
    intro h
    refine .inr ⟨ha, ?_⟩
    by_cases h2 : isDig (l.getD a 0) = true
    · rw [if_pos h2] at h ⊢
      exact numS_good ha h2 h
    · rw [if_neg h2] at h ⊢
      by_cases h3 : isLet (l.getD a 0) = true
      · rw [if_pos h3] at h ⊢
        exact nameS_good ha (by unfold isNm; rw [h3]; rfl) h
      · rw [if_neg h3] at h ⊢
        by_cases h4 : l.getD a 0 = 34
        · rw [if_pos h4] at h ⊢
          exact strS_good ha h
        · rw [if_neg h4] at h ⊢
          exact signS_good ha h

/-- all tokens from a place on; or the first error, with its place -/
def allS (l : List UInt8) : Nat → Nat → List Tk × Nat × Int
  | 0, _ => ([], 0, 0)
  | f + 1, b =>
    if (tokS l b).2 ≠ 0 then ([], b + far isBl l b, (tokS l b).2)
    else if (tokS l b).1.kind = 1 then ([], 0, 0)
    else if (allS l f (tokS l b).1.next).2.2 ≠ 0 then allS l f (tokS l b).1.next
    else ((tokS l b).1 :: (allS l f (tokS l b).1.next).1, 0, 0)
def preT (o : List Tk) (q : List Tk × Nat × Int) : List Tk × Nat × Int := if q.2.2 ≠ 0 then q else (o ++ q.1, q.2)
theorem preT_nil (q : List Tk × Nat × Int) : preT [] q = q := by unfold preT; split <;> simp
theorem preT_end (o : List Tk) : preT o ([], 0, 0) = (o, 0, 0) := by simp [preT]
theorem preT_err (o : List Tk) {q : List Tk × Nat × Int} (h : q.2.2 ≠ 0) : preT o q = q := by unfold preT; rw [if_pos h]
theorem allS_err {l : List UInt8} {f b : Nat} (h : (tokS l b).2 ≠ 0) : allS l (f + 1) b = ([], b + far isBl l b, (tokS l b).2) := by
  show (if _ then _ else _) = _
  rw [if_pos h]
theorem allS_end {l : List UInt8} {f b : Nat} (h : (tokS l b).2 = 0) (hk : (tokS l b).1.kind = 1) : allS l (f + 1) b = ([], 0, 0) := by
  show (if _ then _ else _) = _
  rw [if_neg (by simpa using h), if_pos hk]
theorem allS_zero {l : List UInt8} : ∀ (f b : Nat), (allS l f b).2.2 = 0 → (allS l f b).2.1 = 0
  | 0, _, _ => rfl
  | f + 1, b, h => by
    revert h
    show (if _ then _ else _ : List Tk × Nat × Int).2.2 = 0 → (if _ then _ else _ : List Tk × Nat × Int).2.1 = 0
    split
    · rename_i h1; intro h; exact absurd h h1
    · split
      · intro _; rfl
      · split
        · rename_i h1; intro h; exact absurd h h1
        · intro _; rfl
theorem allS_go {l : List UInt8} {f b : Nat} (o : List Tk) (h : (tokS l b).2 = 0) (hk : (tokS l b).1.kind ≠ 1) : preT o (allS l (f + 1) b) = preT (o ++ [(tokS l b).1]) (allS l f (tokS l b).1.next) := by
  have e : allS l (f + 1) b = if (allS l f (tokS l b).1.next).2.2 ≠ 0 then allS l f (tokS l b).1.next else ((tokS l b).1 :: (allS l f (tokS l b).1.next).1, 0, 0) := by
    show (if _ then _ else _) = _
    rw [if_neg (by simpa using h), if_neg hk]
  have hz := allS_zero (l := l) f (tokS l b).1.next
  rw [e]
  generalize allS l f (tokS l b).1.next = q at *
  by_cases h1 : q.2.2 ≠ 0
  · rw [if_pos h1, preT_err _ h1, preT_err _ h1]
  · rw [if_neg h1]
    obtain ⟨a, x, y⟩ := q
    have hy : y = 0 := by simpa using h1
    have hx : x = 0 := hz hy
    subst hy
    subst hx
    simp [preT]
theorem allS_fuel {l : List UInt8} : ∀ (f g b : Nat), b ≤ l.length → l.length - b < f → l.length - b < g → allS l f b = allS l g b
  | f + 1, g + 1, b, hb, hf, hg => by
    by_cases h : (tokS l b).2 = 0
    · rcases tok_cases hb h with ⟨_, h2⟩ | ⟨h1, h2⟩
      · have hk : (tokS l b).1.kind = 1 := by rw [h2]
        rw [allS_end h hk, allS_end h hk]
      · have := h2.lt
        have := h2.le
        have ih := allS_fuel f g (tokS l b).1.next h2.le (by omega) (by omega)
        have e1 := allS_go (f := f) [] h h2.kind
        have e2 := allS_go (f := g) [] h h2.kind
        rw [preT_nil] at e1 e2
        rw [e1, e2, ih]
    · rw [allS_err h, allS_err h]
/-- all of a text's tokens -/
def tokens (l : List UInt8) : List Tk × Nat × Int := if 2000 < l.length then ([], 0, 3) else allS l (l.length + 1) 0
end Go.Proofs.YtkcbkfflabkcgaaDoor
