/-
  Plain law: what a text is as a float: its sign, its digits, its power; by the library's words for cutting and for reading digits. No program is in sight.
-/
import Derived.Test.YtnaamiecljinnaaGreatFt
import Derived.Test.YtnaamiecljinnaaGreatFd
import Derived.Lib.IndexMore
import Derived.Lib.ParseIntB
import Derived.Lib.AtoiAll
namespace Go.Proofs.YtnaamiecljinnaaGreat
open Go Ieee

def exB (neg : Bool) (n : Nat) (k : Int) : Nat :=
  if n = 0 then double.word neg 0 else if rep (odd n) (k + tz n) then double.word neg (Fl.rungOf (odd n) (k + tz n)) else 0
def exE (n : Nat) (k : Int) : Int := if n = 0 then 0 else if rep (odd n) (k + tz n) then 0 else 3

/-- the first 'p': what stands ahead of it and behind it -/
def splitP : List UInt8 → Option (List UInt8 × List UInt8)
  | [] => none
  | c :: r => if c = 112 then some ([], r) else (splitP r).map fun x => (c :: x.1, x.2)

theorem index_p : ∀ l : List UInt8, (splitP l = none ∧ Lib.index l [112] = -1) ∨ (∃ a b, splitP l = some (a, b) ∧ l = a ++ 112 :: b ∧ Lib.index l [112] = (a.length : Int))
  | [] => .inl ⟨rfl, rfl⟩
  | c :: r => by
    rw [splitP, Lib.index]
    by_cases h : c = 112
    · subst h; right; exact ⟨[], r, by simp, by simp, by simp [List.isPrefixOf]⟩
    · have hp : ([112] : List UInt8).isPrefixOf (c :: r) = false := by simp [List.isPrefixOf]; exact fun e => h e.symm
      rw [hp, if_neg h]
      rcases index_p r with ⟨h1, h2⟩ | ⟨a, b, h1, h2, h3⟩
      · left; rw [h1, h2]; exact ⟨rfl, rfl⟩
      · right
        refine ⟨c :: a, b, by rw [h1]; rfl, by rw [h2]; rfl, ?_⟩
        rw [h3]
        have : ((a.length : Int) == -1) = false := by simp
        rw [this]; simp

theorem cut_p (l : List UInt8) : Lib.cut l [112] = match splitP l with | some (a, b) => (a, b, true) | none => (l, [], false) := by
  unfold Lib.cut
  rcases index_p l with ⟨h1, h2⟩ | ⟨a, b, h1, h2, h3⟩
  · rw [h1, h2]; rfl
  · rw [h1, h3, if_pos (by omega)]
    have e : (a.length : Int).toNat = a.length := by omega
    rw [e]
    have h4 : l.take a.length = a := by rw [h2]; simp
    have h5 : l.drop (a.length + ([112] : List UInt8).length) = b := by
      rw [h2]
      have : a ++ 112 :: b = (a ++ [112]) ++ b := by simp
      rw [this]
      exact List.drop_left' (by simp)
    rw [h4, h5]

/-- the minus ahead of a text, and the rest -/
def isNeg (l : List UInt8) : Bool := l.head? == some 45
def unNeg (l : List UInt8) : List UInt8 := if isNeg l then l.tail else l
theorem hasPrefix_neg (l : List UInt8) : Lib.hasPrefix l [45] = isNeg l := by
  unfold Lib.hasPrefix isNeg
  cases l with
  | nil => rfl
  | cons c r =>
    simp only [List.isPrefixOf, Bool.and_true, List.head?_cons]
    by_cases h : c = 45
    · subst h; rfl
    · have h2 : ¬ 45 = c := fun e => h e.symm
      rw [show ((45 : UInt8) == c) = false from beq_eq_false_iff_ne.2 h2, show (some c == some (45 : UInt8)) = (c == 45) from rfl, beq_eq_false_iff_ne.2 h]
theorem trimPrefix_neg (l : List UInt8) : Lib.trimPrefix l [45] = unNeg l := by
  unfold Lib.trimPrefix unNeg
  rw [hasPrefix_neg]
  cases isNeg l
  · rfl
  · exact List.drop_one

def parseB (l : List UInt8) : Nat × Int :=
  if l = [110, 97, 110] then (9221120237041090560, 0)
  else if unNeg l = [105, 110, 102] then (double.word (isNeg l) 9218868437227405312, 0)
  else match splitP (unNeg l) with
    | none => (0, 5)
    | some (m, p) =>
      if digsOK m 20 && digsOK (unNeg p) 4 then
        if 9007199254740992 < decVal m then (0, 3)
        else (exB (isNeg l) (decVal m) (if isNeg p then -(decVal (unNeg p) : Int) else decVal (unNeg p)), exE (decVal m) (if isNeg p then -(decVal (unNeg p) : Int) else decVal (unNeg p)))
      else (0, 5)

theorem foldl_ge (l : List UInt8) (a : Nat) : a ≤ l.foldl (fun a c => a * 10 + (c.toNat - 48)) a := by
  induction l generalizing a with
  | nil => exact Nat.le_refl _
  | cons c r ih => exact Nat.le_trans (by omega) (ih (a * 10 + (c.toNat - 48)))
theorem parseM_digs (l : List UInt8) (h : l.all isDig = true) (a : Nat) (ha : a < 18446744073709551616) :
    Lib.parseUintM (2 ^ 64 - 1) a l = if l.foldl (fun a c => a * 10 + (c.toNat - 48)) a < 18446744073709551616 then .ok (l.foldl (fun a c => a * 10 + (c.toNat - 48)) a) else .range := by
  induction l generalizing a with
  | nil => rw [Lib.parseUintM, List.foldl_nil, if_pos ha]
  | cons c r ih =>
    rw [List.all_cons, Bool.and_eq_true] at h
    have hc : 48 ≤ c.toNat ∧ c.toNat ≤ 57 := by simpa [isDig] using h.1
    rw [Lib.parseUintM, if_pos hc, List.foldl_cons]
    have hg := foldl_ge r (a * 10 + (c.toNat - 48))
    by_cases h1 : 1844674407370955162 ≤ a
    · rw [if_pos h1, if_neg (by omega)]
    · rw [if_neg h1]
      by_cases h2 : 2 ^ 64 - 1 < a * 10 + (c.toNat - 48)
      · rw [if_pos h2, if_neg (by omega)]
      · rw [if_neg h2, ih h.2 _ (by omega)]
theorem parseUint_digs (l : List UInt8) (h : l.all isDig = true) (h0 : 1 ≤ l.length) : Lib.parseUintB 64 l = if decVal l < 18446744073709551616 then .ok (decVal l) else .range := by
  unfold Lib.parseUintB
  rw [if_neg (by intro e; subst e; simp at h0), parseM_digs l h 0 (by omega)]; rfl
theorem parse10_digs (l : List UInt8) (h : l.all isDig = true) (a : Nat) (ha : l.foldl (fun a c => a * 10 + (c.toNat - 48)) a < 1000000000) :
    Lib.parseUint10 a l = .ok (l.foldl (fun a c => a * 10 + (c.toNat - 48)) a) := by
  induction l generalizing a with
  | nil => rfl
  | cons c r ih =>
    rw [List.all_cons, Bool.and_eq_true] at h
    have hc : 48 ≤ c.toNat ∧ c.toNat ≤ 57 := by simpa [isDig] using h.1
    rw [List.foldl_cons] at ha ⊢
    have hg := foldl_ge r (a * 10 + (c.toNat - 48))
    rw [Lib.parseUint10, if_pos hc, if_neg (by omega), if_neg (by omega), ih h.2 _ ha]
theorem decVal_lt (l : List UInt8) (h : l.all isDig = true) : decVal l < 10 ^ l.length := by
  suffices ∀ (l : List UInt8) (a : Nat), l.all isDig = true → l.foldl (fun a c => a * 10 + (c.toNat - 48)) a < (a + 1) * 10 ^ l.length by
    have := this l 0 h; simpa [decVal] using this
  intro l
  induction l with
  | nil => intro a _; simp
  | cons c r ih =>
    intro a h
    rw [List.all_cons, Bool.and_eq_true] at h
    have hc : 48 ≤ c.toNat ∧ c.toNat ≤ 57 := by simpa [isDig] using h.1
    rw [List.foldl_cons, List.length_cons]
    refine Nat.lt_of_lt_of_le (ih _ h.2) ?_
    rw [Nat.pow_succ, Nat.mul_comm (10 ^ r.length) 10, ← Nat.mul_assoc]
    exact Nat.mul_le_mul_right _ (by omega)
theorem atoi_digs (l : List UInt8) (h : digsOK l 4 = true) : Lib.atoiAll l = .ok (decVal l : Int) ∧ decVal l < 10000 := by
  unfold digsOK at h
  simp only [Bool.and_eq_true, decide_eq_true_eq] at h
  obtain ⟨h1, h2, h3⟩ := h
  have hlt : decVal l < 10000 := by
    have := decVal_lt l h1
    have h4 : 10 ^ l.length ≤ 10 ^ 4 := Nat.pow_le_pow_right (by omega) h3
    omega
  refine ⟨?_, hlt⟩
  cases l with
  | nil => simp at h2
  | cons c r =>
    have hc : 48 ≤ c.toNat ∧ c.toNat ≤ 57 := by
      rw [List.all_cons, Bool.and_eq_true] at h1; simpa [isDig] using h1.1
    unfold Lib.atoiAll
    simp only
    rw [if_neg (by omega)]
    unfold Lib.parseMag
    rw [if_neg (by simp), parse10_digs _ h1 0 (by show decVal (c :: r) < _; omega)]
    simp only
    rw [if_neg (by show ¬ (_ ∧ 9223372036854775808 ≤ decVal (c :: r)); omega), if_neg (by omega), if_neg (by omega)]
    rfl
end Go.Proofs.YtnaamiecljinnaaGreat
