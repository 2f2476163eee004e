/-
  Plain law: a number's digits ahead of a text, and the references' way of reading a float. No program is in sight.
-/
import Derived.Test.YtnaamiecljinnaaGreatFq
namespace Go.Proofs.YtnaamiecljinnaaGreat
open Go Ieee

def digs (l : List UInt8) : List UInt8 := l.takeWhile isDig
def rst (l : List UInt8) : List UInt8 := l.dropWhile isDig
def capN (n : Nat) : Nat := min n 576460752303423488
theorem digs_all : ∀ l : List UInt8, (digs l).all isDig = true
  | [] => rfl
  | c :: r => by
    have ih := digs_all r
    unfold digs at ih ⊢
    rw [List.takeWhile_cons]
    by_cases h : isDig c = true
    · rw [if_pos h, List.all_cons, h, ih]; rfl
    · rw [if_neg h]; rfl
theorem digs_rst (l : List UInt8) : digs l ++ rst l = l := List.takeWhile_append_dropWhile
theorem rst_head (l : List UInt8) : (∀ c r, rst l = c :: r → isDig c = false) := by
  induction l with
  | nil => intro c r h; cases h
  | cons x xs ih =>
    intro c r h
    unfold rst at h
    rw [List.dropWhile_cons] at h
    by_cases hx : isDig x = true
    · rw [if_pos hx] at h; exact ih c r h
    · rw [if_neg hx] at h; cases h; simpa using hx
theorem cap_step (a d : Nat) : capN (capN a * 10 + d) = capN (a * 10 + d) := by unfold capN; omega
theorem cap_lt (a : Nat) : capN a ≤ 576460752303423488 := by unfold capN; omega
theorem cap_big (a : Nat) : 9007199254740992 < capN a ↔ 9007199254740992 < a := by unfold capN; omega
theorem cap_id {a : Nat} (h : a ≤ 576460752303423488) : capN a = a := by unfold capN; omega
/-- where the digits end -/
theorem digs_take {l : List UInt8} {k : Nat} (h1 : (l.take k).all isDig = true) (h2 : ∀ c r, l.drop k = c :: r → isDig c = false) : digs l = l.take k ∧ rst l = l.drop k := by
  have e : l = l.take k ++ l.drop k := (List.take_append_drop k l).symm
  have hall : ∀ x ∈ l.take k, isDig x = true := List.all_eq_true.1 h1
  have ht : (l.drop k).takeWhile isDig = [] := by
    cases hd : l.drop k with
    | nil => rfl
    | cons c r => rw [List.takeWhile_cons, if_neg (by rw [h2 c r hd]; decide)]
  have hdr : (l.drop k).dropWhile isDig = l.drop k := by
    cases hd : l.drop k with
    | nil => rfl
    | cons c r => rw [List.dropWhile_cons, if_neg (by rw [h2 c r hd]; decide)]
  unfold digs rst
  constructor
  · conv => lhs; rw [e]
    rw [List.takeWhile_append_of_pos hall, ht, List.append_nil]
  · conv => lhs; rw [e]
    rw [List.dropWhile_append_of_pos hall, hdr]

/-- a text cut at the first 'p', by where its digits end -/
theorem split_digs : ∀ (d r : List UInt8), d.all isDig = true → splitP (d ++ 112 :: r) = some (d, r)
  | [], r, _ => rfl
  | c :: d, r, h => by
    rw [List.all_cons, Bool.and_eq_true] at h
    have hc : ¬ c = 112 := by intro e; rw [e] at h; exact absurd h.1 (by decide)
    show splitP (c :: (d ++ 112 :: r)) = _
    rw [splitP, if_neg hc, split_digs d r h.2]; rfl
theorem split_not : ∀ (d : List UInt8) (x : UInt8) (r : List UInt8), d.all isDig = true → isDig x = false → x ≠ 112 → ∀ m p, splitP (d ++ x :: r) = some (m, p) → m.all isDig = false
  | [], x, r, _, hx, hp, m, p, h => by
    show m.all isDig = false
    have h' : splitP (x :: r) = some (m, p) := h
    rw [splitP, if_neg hp] at h'
    cases hs : splitP r with
    | none => rw [hs] at h'; cases h'
    | some y => rw [hs] at h'; cases h'; rw [List.all_cons, hx]; rfl
  | c :: d, x, r, h, hx, hp, m, p, hh => by
    rw [List.all_cons, Bool.and_eq_true] at h
    have hc : ¬ c = 112 := by intro e; rw [e] at h; exact absurd h.1 (by decide)
    have h' : splitP (c :: (d ++ x :: r)) = some (m, p) := hh
    rw [splitP, if_neg hc] at h'
    cases hs : splitP (d ++ x :: r) with
    | none => rw [hs] at h'; cases h'
    | some y => rw [hs] at h'; cases h'; rw [List.all_cons, split_not d x r h.2 hx hp y.1 y.2 hs, Bool.and_false]
theorem split_all : ∀ (d : List UInt8), d.all isDig = true → splitP d = none
  | [], _ => rfl
  | c :: d, h => by
    rw [List.all_cons, Bool.and_eq_true] at h
    have hc : ¬ c = 112 := by intro e; rw [e] at h; exact absurd h.1 (by decide)
    rw [splitP, if_neg hc, split_all d h.2]; rfl

/-- the whole text is digits, few enough -/
theorem digsOK_rst (l : List UInt8) (most : Nat) : digsOK l most = (decide (rst l = []) && (decide (1 ≤ (digs l).length) && decide ((digs l).length ≤ most))) := by
  cases h : rst l with
  | nil =>
    have e : digs l = l := by have := digs_rst l; rw [h, List.append_nil] at this; exact this
    have ha := digs_all l
    rw [e] at ha
    unfold digsOK
    rw [ha, e]; simp
  | cons c r =>
    have hc := rst_head l c r h
    have : l.all isDig = false := by
      rw [← digs_rst l, h, List.all_append, List.all_cons, hc]; simp
    unfold digsOK; rw [this]; simp

/-- how the references read a float behind its sign -/
def rform (u : List UInt8) : Bool :=
  match rst u with
  | c :: r => c == 112 && (decide (1 ≤ (digs u).length) && decide ((digs u).length ≤ 20)) && digsOK (unNeg r) 4
  | [] => false
theorem rform_split (u : List UInt8) : (match splitP u with | none => false | some (m, p) => digsOK m 20 && digsOK (unNeg p) 4) = rform u := by
  have hu := digs_rst u
  have hd := digs_all u
  unfold rform
  cases h : rst u with
  | nil =>
    rw [h, List.append_nil] at hu
    rw [← hu, split_all _ hd]
  | cons c r =>
    rw [h] at hu
    by_cases hc : c = 112
    · subst hc
      conv => lhs; rw [← hu]
      rw [split_digs _ _ hd]
      show (digsOK (digs u) 20 && digsOK (unNeg r) 4) = _
      unfold digsOK
      rw [hd]; simp
    · have hn : (c == 112) = false := beq_eq_false_iff_ne.2 hc
      show _ = (c == 112 && (decide (1 ≤ (digs u).length) && decide ((digs u).length ≤ 20)) && digsOK (unNeg r) 4)
      rw [hn]
      cases hs : splitP u with
      | none => rfl
      | some y =>
        obtain ⟨m, p⟩ := y
        have := split_not (digs u) c r hd (rst_head u c r h) hc m p (by rw [hu]; exact hs)
        show (digsOK m 20 && _) = _
        unfold digsOK; rw [this]; rfl
end Go.Proofs.YtnaamiecljinnaaGreat
