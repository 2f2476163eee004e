/-
  Plain law: what a text's token at a place is. No program is in sight.
-/
import Derived.Test.YtnaamiecljinnaaGreatFn
namespace Go.Proofs.YtnaamiecljinnaaGreat
open Go

/-- how far a text goes on so from a place -/
def far (p : UInt8 → Bool) (l : List UInt8) (a : Nat) : Nat := ((l.drop a).takeWhile p).length
theorem far_le (p : UInt8 → Bool) (l : List UInt8) {a : Nat} (h : a ≤ l.length) : a + far p l a ≤ l.length := by
  have h1 : ((l.drop a).takeWhile p).length ≤ (l.drop a).length := List.Sublist.length_le (List.takeWhile_sublist p)
  rw [List.length_drop] at h1
  unfold far; omega
theorem far_end (p : UInt8 → Bool) {l : List UInt8} {a : Nat} (h : l.length ≤ a) : far p l a = 0 := by
  unfold far; rw [List.drop_eq_nil_of_le h]; rfl
theorem far_stop (p : UInt8 → Bool) {l : List UInt8} {a : Nat} (h : a < l.length) (hp : p (l.getD a 0) = false) : far p l a = 0 := by
  have e : l.getD a 0 = l[a] := by simp [List.getD, h]
  unfold far; rw [List.drop_eq_getElem_cons h, List.takeWhile_cons, if_neg (by rw [← e, hp]; decide)]; rfl
theorem far_go (p : UInt8 → Bool) {l : List UInt8} {a : Nat} (h : a < l.length) (hp : p (l.getD a 0) = true) : far p l a = far p l (a + 1) + 1 := by
  have e : l.getD a 0 = l[a] := by simp [List.getD, h]
  unfold far; rw [List.drop_eq_getElem_cons h, List.takeWhile_cons, if_pos (by rw [← e, hp])]; rfl

def isBl (c : UInt8) : Bool := c == 32 || c == 9 || c == 10 || c == 13
def isLet (c : UInt8) : Bool := decide (97 ≤ c.toNat ∧ c.toNat ≤ 122)
def isNm (c : UInt8) : Bool := isLet c || isDig c || c == 95

/-- a token: its kind, where it begins and ends, its number, its float (as bits), its text -/
structure Tk where
  kind : Int
  pos : Nat
  next : Nat
  num : Int
  flt : Nat
  str : List UInt8

def part (l : List UInt8) (a e : Nat) : List UInt8 := (l.drop a).take (e - a)
def noTk : Tk := ⟨0, 0, 0, 0, 0, []⟩

/-- an int, or a float -/
def numS (l : List UInt8) (a : Nat) : Tk × Int :=
  let i := a + far isDig l a
  if l[i]? = some 112 then
    let k := if l[i + 1]? = some 45 then i + 2 else i + 1
    let j := k + far isDig l k
    if far isDig l k = 0 then (noTk, 5) else (⟨3, a, j, 0, (parseB (part l a j)).1, []⟩, (parseB (part l a j)).2)
  else if 19 < far isDig l a ∨ 9223372036854775808 ≤ decVal (part l a i) then (noTk, 3)
  else (⟨2, a, i, decVal (part l a i), 0, []⟩, 0)

/-- a name -/
def nameS (l : List UInt8) (a : Nat) : Tk × Int :=
  let i := a + far isNm l a
  let w := part l a i
  if w = [110, 97, 110] ∨ w = [105, 110, 102] then (⟨3, a, i, 0, (parseB w).1, []⟩, 0)
  else if 30 < far isNm l a then (noTk, 3)
  else (⟨5, a, i, 0, 0, w⟩, 0)

/-- what stands within a string's marks, and how many bytes were read up to the mark and with it; or an error -/
def inMarks : List UInt8 → Except Int (List UInt8 × Nat)
  | [] => .error 14
  | c :: r =>
    if c = 34 then .ok ([], 1)
    else if c = 92 then
      match r with
      | [] => .error 14
      | d :: q => if d = 34 ∨ d = 92 then (match inMarks q with | .ok x => .ok (d :: x.1, x.2 + 2) | .error e => .error e) else .error 5
    else (match inMarks r with | .ok x => .ok (c :: x.1, x.2 + 1) | .error e => .error e)
def strS (l : List UInt8) (a : Nat) : Tk × Int :=
  match inMarks (l.drop (a + 1)) with
  | .error e => (noTk, e)
  | .ok (w, n) => if 200 < w.length then (noTk, 3) else (⟨4, a, a + 1 + n, 0, 0, w⟩, 0)

def twos : List (List UInt8) := [[61, 61], [60, 61], [38, 38], [124, 124]]
def ones : List UInt8 := [40, 41, 91, 93, 123, 125, 44, 58, 46, 63, 43, 45, 42, 47, 37, 33, 60]
/-- a sign -/
def signS (l : List UInt8) (a : Nat) : Tk × Int :=
  if twos.contains (part l a (a + 2)) then (⟨6, a, a + 2, 0, 0, part l a (a + 2)⟩, 0)
  else if ones.contains (l.getD a 0) then (⟨6, a, a + 1, 0, 0, [l.getD a 0]⟩, 0)
  else (noTk, 5)

/-- the token behind the blanks at a place, its error, and where it begins -/
def tokS (l : List UInt8) (b : Nat) : Tk × Int :=
  let a := b + far isBl l b
  if a = l.length then (⟨1, a, a, 0, 0, []⟩, 0)
  else
    let c := l.getD a 0
    if isDig c then numS l a else if isLet c then nameS l a else if c = 34 then strS l a else signS l a
end Go.Proofs.YtnaamiecljinnaaGreat
