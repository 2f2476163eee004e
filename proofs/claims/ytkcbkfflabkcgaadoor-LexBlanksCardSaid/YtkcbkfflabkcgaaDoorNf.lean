/-
  Plain law: a token hangs on its own bytes, and on what stands behind it being no part of it. No program is in sight.
-/
import Derived.Test.YtkcbkfflabkcgaaDoorNa
namespace Go.Proofs.YtkcbkfflabkcgaaDoor
open Go

def shiftT (a : Nat) (k : Tk) : Tk := { k with pos := k.pos + a, next := k.next + a }
/-- the same reading, the text cut off ahead -/
def RelT (a : Nat) (r r0 : Tk × Int) : Prop := r.2 = r0.2 ∧ (r.2 = 0 → r.1 = shiftT a r0.1)
theorem far_drop (p : UInt8 → Bool) (l : List UInt8) (a j : Nat) : far p l (a + j) = far p (l.drop a) j := by
  unfold far; rw [List.drop_drop]
theorem part_drop (l : List UInt8) (a i j : Nat) : part l (a + i) (a + j) = part (l.drop a) i j := by
  unfold part; rw [List.drop_drop]; congr 1; omega
theorem get_drop (l : List UInt8) (a j : Nat) : l[a + j]? = (l.drop a)[j]? := by
  rw [List.getElem?_drop]
theorem getD_drop (l : List UInt8) (a : Nat) : l.getD a 0 = (l.drop a).getD 0 0 := by
  rw [List.getD_eq_getElem?_getD, List.getD_eq_getElem?_getD, ← get_drop, Nat.add_zero]
theorem numS_rel (l : List UInt8) (a : Nat) : RelT a (numS l a) (numS (l.drop a) 0) := by
  have h1 : far isDig l a = far isDig (l.drop a) 0 := far_drop isDig l a 0
  unfold numS
  dsimp only
  rw [h1, Nat.zero_add]
  generalize far isDig (l.drop a) 0 = n
  rw [get_drop l a n, Nat.add_assoc a n 1, get_drop l a (n + 1)]
  by_cases hp : (l.drop a)[n]? = some 112
  · rw [if_pos hp, if_pos hp]
    by_cases hm : (l.drop a)[n + 1]? = some 45
    · rw [if_pos hm, if_pos hm, Nat.add_assoc a n 2, far_drop isDig l a (n + 2)]
      by_cases hz : far isDig (l.drop a) (n + 2) = 0
      · rw [if_pos hz, if_pos hz]; exact ⟨rfl, fun h => by cases h⟩
      · rw [if_neg hz, if_neg hz]
        have h2 := part_drop l a 0 (n + 2 + far isDig (l.drop a) (n + 2))
        rw [Nat.add_zero, ← Nat.add_assoc] at h2
        rw [h2]
        refine ⟨rfl, fun _ => ?_⟩
        simp [shiftT]
        omega
    · rw [if_neg hm, if_neg hm, far_drop isDig l a (n + 1)]
      by_cases hz : far isDig (l.drop a) (n + 1) = 0
      · rw [if_pos hz, if_pos hz]; exact ⟨rfl, fun h => by cases h⟩
      · rw [if_neg hz, if_neg hz]
        have h2 := part_drop l a 0 (n + 1 + far isDig (l.drop a) (n + 1))
        rw [Nat.add_zero, ← Nat.add_assoc] at h2
        rw [h2]
        refine ⟨rfl, fun _ => ?_⟩
        simp [shiftT]
        omega
  · rw [if_neg hp, if_neg hp]
    have h2 := part_drop l a 0 n
    rw [Nat.add_zero] at h2
    rw [h2]
    by_cases hc : 19 < n ∨ 9223372036854775808 ≤ decVal (part (l.drop a) 0 n)
    · rw [if_pos hc, if_pos hc]; exact ⟨rfl, fun h => by cases h⟩
    · rw [if_neg hc, if_neg hc]
      refine ⟨rfl, fun _ => ?_⟩
      simp [shiftT]
      omega
theorem nameS_rel (l : List UInt8) (a : Nat) : RelT a (nameS l a) (nameS (l.drop a) 0) := by
  have h1 : far isNm l a = far isNm (l.drop a) 0 := far_drop isNm l a 0
  unfold nameS
  dsimp only
  rw [h1, Nat.zero_add]
  generalize far isNm (l.drop a) 0 = n
  have h2 := part_drop l a 0 n
  rw [Nat.add_zero] at h2
  rw [h2]
  split
  · refine ⟨rfl, fun _ => ?_⟩
    simp [shiftT]; omega
  · split
    · exact ⟨rfl, fun h => by cases h⟩
    · refine ⟨rfl, fun _ => ?_⟩
      simp [shiftT]; omega
theorem strS_rel (l : List UInt8) (a : Nat) : RelT a (strS l a) (strS (l.drop a) 0) := by
  unfold strS
  rw [List.drop_drop, show a + (0 + 1) = a + 1 by omega]
  cases hm : inMarks (l.drop (a + 1)) with
  | error e =>
    refine ⟨rfl, fun h => ?_⟩
    dsimp only at h
    rw [h] at hm
    exact absurd hm (marks_no0 _ _ (Nat.le_refl _))
  | ok x =>
    dsimp only
    split
    · exact ⟨rfl, fun h => by cases h⟩
    · refine ⟨rfl, fun _ => ?_⟩
      simp [shiftT]; omega
theorem signS_rel (l : List UInt8) (a : Nat) : RelT a (signS l a) (signS (l.drop a) 0) := by
  unfold signS
  have h2 := part_drop l a 0 2
  rw [Nat.add_zero] at h2
  rw [h2, getD_drop l a, Nat.zero_add]
  split
  · refine ⟨rfl, fun _ => ?_⟩
    simp [shiftT]; omega
  · split
    · refine ⟨rfl, fun _ => ?_⟩
      simp [shiftT]; omega
    · exact ⟨rfl, fun h => by cases h⟩
/-- the token at a text's very beginning -/
def readR (d : List UInt8) : Tk × Int :=
  if isDig (d.getD 0 0) then numS d 0 else if isLet (d.getD 0 0) then nameS d 0 else if d.getD 0 0 = 34 then strS d 0 else signS d 0
theorem tok_rel {l : List UInt8} {b a : Nat} (hab : a = b + far isBl l b) (ha : a < l.length) : RelT a (tokS l b) (readR (l.drop a)) := by
  have e : tokS l b = if isDig (l.getD a 0) then numS l a else if isLet (l.getD a 0) then nameS l a else if l.getD a 0 = 34 then strS l a else signS l a := by
    unfold tokS
    dsimp only
    rw [← hab, if_neg (by omega)]
  rw [e, getD_drop l a]
  unfold readR
  split
  · exact numS_rel l a
  · split
    · exact nameS_rel l a
    · split
      · exact strS_rel l a
      · exact signS_rel l a

/-! what stands behind -/
theorem take_app (p : UInt8 → Bool) : ∀ (u r r' : List UInt8) (c : UInt8), p c = false → ((u ++ r).takeWhile p).length ≤ u.length → ((u ++ c :: r').takeWhile p).length = ((u ++ r).takeWhile p).length
  | [], r, r', c, hc, h => by
    rw [List.nil_append] at h ⊢
    rw [List.nil_append, List.takeWhile_cons, if_neg (by rw [hc]; decide)]
    simp at h ⊢
    rw [h]; rfl
  | x :: u, r, r', c, hc, h => by
    rw [List.cons_append, List.takeWhile_cons] at h
    rw [List.cons_append, List.cons_append, List.takeWhile_cons, List.takeWhile_cons]
    by_cases hx : p x = true
    · rw [if_pos hx] at h ⊢
      rw [if_pos hx, List.length_cons, List.length_cons, take_app p u r r' c hc (by simpa using h)]
    · rw [if_neg hx, if_neg hx]
theorem far_same (p : UInt8 → Bool) {t r r' : List UInt8} {c : UInt8} {a : Nat} (hc : p c = false) (ha : a ≤ t.length) (h : a + far p (t ++ r) a ≤ t.length) : far p (t ++ c :: r') a = far p (t ++ r) a := by
  unfold far at h ⊢
  rw [List.drop_append_of_le_length ha] at h ⊢
  rw [List.drop_append_of_le_length ha]
  exact take_app p _ r r' c hc (by rw [List.length_drop]; omega)
theorem get_same {t r r' : List UInt8} {i : Nat} (h : i < t.length) : (t ++ r')[i]? = (t ++ r)[i]? := by
  rw [List.getElem?_append_left h, List.getElem?_append_left h]
theorem part_same {t r r' : List UInt8} {a e : Nat} (h : e ≤ t.length) (ha : a ≤ e) : part (t ++ r') a e = part (t ++ r) a e := by
  unfold part
  rw [List.drop_append_of_le_length (by omega), List.drop_append_of_le_length (by omega)]
  rw [List.take_append_of_le_length (by rw [List.length_drop]; omega), List.take_append_of_le_length (by rw [List.length_drop]; omega)]
theorem bl_not {c : UInt8} (h : isBl c = true) : isDig c = false ∧ isNm c = false ∧ c ≠ 112 ∧ ∀ x, twos.contains [x, c] = false := by
  unfold isBl at h
  simp only [Bool.or_eq_true, beq_iff_eq] at h
  rcases h with ((rfl | rfl) | rfl) | rfl <;> refine ⟨rfl, rfl, by decide, fun x => ?_⟩ <;> simp [twos]
theorem numS_same {t r r' : List UInt8} {c : UInt8} {k : Tk} (hc : isBl c = true) (h : numS (t ++ r) 0 = (k, 0)) (hk : k.next = t.length) : numS (t ++ c :: r') 0 = (k, 0) := by
  obtain ⟨c1, _, c3, _⟩ := bl_not hc
  rw [← h]
  have hd := h
  unfold numS at hd ⊢
  dsimp only at hd ⊢
  rw [Nat.zero_add] at hd
  rw [Nat.zero_add, Nat.zero_add]
  by_cases hp : (t ++ r)[far isDig (t ++ r) 0]? = some 112
  · rw [if_pos hp] at hd
    by_cases hm : (t ++ r)[far isDig (t ++ r) 0 + 1]? = some 45
    · rw [if_pos hm] at hd
      by_cases hz : far isDig (t ++ r) (far isDig (t ++ r) 0 + 2) = 0
      · rw [if_pos hz] at hd; cases hd
      · rw [if_neg hz] at hd
        have hn : far isDig (t ++ r) 0 + 2 + far isDig (t ++ r) (far isDig (t ++ r) 0 + 2) = t.length := by rw [← hk, ← congrArg (fun q => q.1.next) hd]
        have f0 : far isDig (t ++ c :: r') 0 = far isDig (t ++ r) 0 := far_same isDig c1 (by omega) (by omega)
        rw [f0, get_same (r := r) (by omega), if_pos hp, get_same (r := r) (by omega), if_pos hm]
        have f2 : far isDig (t ++ c :: r') (far isDig (t ++ r) 0 + 2) = far isDig (t ++ r) (far isDig (t ++ r) 0 + 2) := far_same isDig c1 (by omega) (by omega)
        rw [f2, part_same (r := r) (by omega) (by omega), if_pos hp]
    · rw [if_neg hm] at hd
      by_cases hz : far isDig (t ++ r) (far isDig (t ++ r) 0 + 1) = 0
      · rw [if_pos hz] at hd; cases hd
      · rw [if_neg hz] at hd
        have hn : far isDig (t ++ r) 0 + 1 + far isDig (t ++ r) (far isDig (t ++ r) 0 + 1) = t.length := by rw [← hk, ← congrArg (fun q => q.1.next) hd]
        have f0 : far isDig (t ++ c :: r') 0 = far isDig (t ++ r) 0 := far_same isDig c1 (by omega) (by omega)
        rw [f0, get_same (r := r) (by omega), if_pos hp, get_same (r := r) (by omega), if_neg hm]
        have f2 : far isDig (t ++ c :: r') (far isDig (t ++ r) 0 + 1) = far isDig (t ++ r) (far isDig (t ++ r) 0 + 1) := far_same isDig c1 (by omega) (by omega)
        rw [f2, part_same (r := r) (by omega) (by omega), if_pos hp]
  · rw [if_neg hp] at hd
    by_cases hcd : 19 < far isDig (t ++ r) 0 ∨ 9223372036854775808 ≤ decVal (part (t ++ r) 0 (far isDig (t ++ r) 0))
    · rw [if_pos hcd] at hd; cases hd
    · rw [if_neg hcd] at hd
      have hn : far isDig (t ++ r) 0 = t.length := by rw [← hk, ← congrArg (fun q => q.1.next) hd]
      have f0 : far isDig (t ++ c :: r') 0 = far isDig (t ++ r) 0 := far_same isDig c1 (by omega) (by omega)
      have hg : ¬ (t ++ c :: r')[far isDig (t ++ r) 0]? = some 112 := by
        rw [hn, List.getElem?_append_right (Nat.le_refl _), Nat.sub_self]
        intro e
        exact c3 (Option.some.inj e)
      rw [f0, if_neg hg, part_same (r := r) (by omega) (by omega), if_neg hp]
theorem nameS_same {t r r' : List UInt8} {c : UInt8} {k : Tk} (hc : isBl c = true) (h : nameS (t ++ r) 0 = (k, 0)) (hk : k.next = t.length) : nameS (t ++ c :: r') 0 = (k, 0) := by
  obtain ⟨_, c1, _, _⟩ := bl_not hc
  rw [← h]
  have hn : far isNm (t ++ r) 0 = t.length := by
    have hd := h
    unfold nameS at hd
    dsimp only at hd
    rw [Nat.zero_add] at hd
    rw [← hk]
    split at hd
    · exact congrArg (fun q => q.1.next) hd
    · split at hd
      · cases hd
      · exact congrArg (fun q => q.1.next) hd
  have f0 : far isNm (t ++ c :: r') 0 = far isNm (t ++ r) 0 := far_same isNm c1 (by omega) (by omega)
  unfold nameS
  dsimp only
  rw [f0, Nat.zero_add, part_same (r := r) (by omega) (by omega)]
theorem marks_same : ∀ (m : Nat) (q : List UInt8), q.length ≤ m → ∀ w n, inMarks q = .ok (w, n) → ∀ x, inMarks (q.take n ++ x) = .ok (w, n)
  | 0, q, hq, w, n, h, x => by
    have : q = [] := List.length_eq_zero_iff.1 (by omega)
    subst this
    cases h
  | m + 1, q, hq, w, n, h, x => by
    rcases q with _ | ⟨c, r⟩
    · cases h
    · rw [inMarks.eq_def] at h
      dsimp only at h
      by_cases h1 : c = 34
      · rw [if_pos h1] at h
        cases h
        subst h1
        show inMarks (34 :: x) = _
        rw [inMarks.eq_def]
        rfl
      · rw [if_neg h1] at h
        by_cases h2 : c = 92
        · rw [if_pos h2] at h
          rcases r with _ | ⟨d, q⟩
          · cases h
          · dsimp only at h
            by_cases h3 : d = 34 ∨ d = 92
            · rw [if_pos h3] at h
              cases hm : inMarks q with
              | error e => rw [hm] at h; cases h
              | ok y =>
                rw [hm] at h
                cases h
                have ih := marks_same m q (by simp at hq; omega) y.1 y.2 hm x
                show inMarks (c :: d :: (q.take y.2 ++ x)) = _
                rw [inMarks.eq_def]
                dsimp only
                rw [if_neg h1, if_pos h2, if_pos h3, ih]
            · rw [if_neg h3] at h; cases h
        · rw [if_neg h2] at h
          cases hm : inMarks r with
          | error e => rw [hm] at h; cases h
          | ok y =>
            rw [hm] at h
            cases h
            have ih := marks_same m r (by simp at hq; omega) y.1 y.2 hm x
            show inMarks (c :: (r.take y.2 ++ x)) = _
            rw [inMarks.eq_def]
            dsimp only
            rw [if_neg h1, if_neg h2, ih]
theorem strS_same {t r r' : List UInt8} {k : Tk} (ht : 1 ≤ t.length) (h : strS (t ++ r) 0 = (k, 0)) (hk : k.next = t.length) : strS (t ++ r') 0 = (k, 0) := by
  rw [← h]
  obtain ⟨x, u, rfl⟩ : ∃ x u, t = x :: u := by
    cases t with
    | nil => simp at ht
    | cons x u => exact ⟨x, u, rfl⟩
  unfold strS at h ⊢
  rw [show (x :: u ++ r).drop (0 + 1) = u ++ r from rfl] at h ⊢
  rw [show (x :: u ++ r').drop (0 + 1) = u ++ r' from rfl]
  cases hm : inMarks (u ++ r) with
  | error e =>
    rw [hm] at h
    dsimp only at h
    have he : e = 0 := congrArg Prod.snd h
    rw [he] at hm
    exact absurd hm (marks_no0 _ _ (Nat.le_refl _))
  | ok y =>
    obtain ⟨w, n⟩ := y
    rw [hm] at h
    dsimp only at h
    have hn : n = u.length := by
      split at h
      · cases h
      · have := congrArg (fun q => q.1.next) h
        dsimp only at this
        rw [hk, List.length_cons] at this
        omega
    have := marks_same _ (u ++ r) (Nat.le_refl _) w n hm r'
    rw [hn, List.take_left] at this
    rw [this, hn]
theorem signS_same {t r r' : List UInt8} {c : UInt8} {k : Tk} (hc : isBl c = true) (ht : 1 ≤ t.length) (h : signS (t ++ r) 0 = (k, 0)) (hk : k.next = t.length) : signS (t ++ c :: r') 0 = (k, 0) := by
  obtain ⟨_, _, _, c4⟩ := bl_not hc
  rw [← h]
  obtain ⟨x, u, rfl⟩ : ∃ x u, t = x :: u := by
    cases t with
    | nil => simp at ht
    | cons x u => exact ⟨x, u, rfl⟩
  have hg : ∀ q, (x :: u ++ q).getD 0 0 = x := fun q => rfl
  unfold signS at h ⊢
  rw [hg] at h ⊢
  rw [hg]
  by_cases h2 : twos.contains (part (x :: u ++ r) 0 (0 + 2)) = true
  · rw [if_pos h2] at h
    have hn : 2 = (x :: u).length := by rw [← hk, ← congrArg (fun q => q.1.next) h]
    rw [part_same (r := r) (by omega) (by omega), if_pos h2]
  · rw [if_neg h2] at h
    by_cases h1 : ones.contains x = true
    · rw [if_pos h1] at h
      have hn : 1 = (x :: u).length := by rw [← hk, ← congrArg (fun q => q.1.next) h]
      have hu : u = [] := by
        rw [List.length_cons] at hn
        exact List.length_eq_zero_iff.1 (by omega)
      subst hu
      have hp : part ([x] ++ c :: r') 0 (0 + 2) = [x, c] := rfl
      rw [hp, c4 x, if_neg h2, if_pos h1]
      rfl
    · rw [if_neg h1] at h; cases h
theorem readR_same {t r r' : List UInt8} {c : UInt8} {k : Tk} (hc : isBl c = true) (ht : 1 ≤ t.length) (h : readR (t ++ r) = (k, 0)) (hk : k.next = t.length) : readR (t ++ c :: r') = (k, 0) := by
  have hg : (t ++ c :: r').getD 0 0 = (t ++ r).getD 0 0 := by
    cases t with
    | nil => simp at ht
    | cons x u => rfl
  unfold readR at h ⊢
  rw [hg]
  split at h
  · rename_i h1; rw [if_pos h1]; exact numS_same hc h hk
  · rename_i h1
    rw [if_neg h1]
    split at h
    · rename_i h2; rw [if_pos h2]; exact nameS_same hc h hk
    · rename_i h2
      rw [if_neg h2]
      split at h
      · rename_i h3; rw [if_pos h3]; exact strS_same ht h hk
      · rename_i h3; rw [if_neg h3]; exact signS_same hc ht h hk
end Go.Proofs.YtkcbkfflabkcgaaDoor
