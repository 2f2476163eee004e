/-
  Plain: values as trees; how many parts; which are right; their bytes. No program is in sight.
-/
import Derived.Test.YtnaamiecljinnaaGreatKp
namespace Go.Proofs.YtnaamiecljinnaaGreat
open Go

/-- a value: its kind, number, float (as bits), text, names, items -/
inductive VT where
  | mk (kind num : Int) (flt : Nat) (str : List UInt8) (names : List (List UInt8)) (items : List VT)

def VT.kind : VT → Int | .mk k _ _ _ _ _ => k
def VT.num : VT → Int | .mk _ n _ _ _ _ => n
def VT.flt : VT → Nat | .mk _ _ f _ _ _ => f
def VT.str : VT → List UInt8 | .mk _ _ _ s _ _ => s
def VT.names : VT → List (List UInt8) | .mk _ _ _ _ ns _ => ns
def VT.items : VT → List VT | .mk _ _ _ _ _ its => its
theorem VT.eta (v : VT) : v = .mk v.kind v.num v.flt v.str v.names v.items := by cases v; rfl

mutual
/-- parts, counted on from n, while there are fewer than 500 -/
def countV : VT → Nat → Nat
  | .mk _ _ _ _ _ its, n => countL its (n + 1)
def countL : List VT → Nat → Nat
  | [], n => n
  | x :: xs, n => if 500 ≤ n then n else countL xs (countV x n)
end
mutual
theorem countV_le : ∀ (v : VT) (n : Nat), n < 500 → countV v n ≤ 500 ∧ n < countV v n
  | .mk _ _ _ _ _ its, n, h => by
    have := countL_le its (n + 1) (by omega)
    rw [countV]
    omega
theorem countL_le : ∀ (l : List VT) (n : Nat), n ≤ 500 → countL l n ≤ 500 ∧ n ≤ countL l n
  | [], n, h => by rw [countL]; omega
  | x :: xs, n, h => by
    rw [countL]
    by_cases hn : 500 ≤ n
    · rw [if_pos hn]; omega
    · rw [if_neg hn]
      have h1 := countV_le x n (by omega)
      have h2 := countL_le xs (countV x n) h1.1
      omega
end

/-- what may be a name -/
def nmB (l : List UInt8) : Bool := decide (1 ≤ l.length ∧ l.length ≤ 30) && isLet (l.getD 0 0) && l.all isNm
/-- names, each behind the one before it -/
def risesB : List (List UInt8) → Bool
  | [] => true
  | [a] => nmB a
  | a :: b :: l => nmB a && Op.bytesLess a b && risesB (b :: l)
def zeroB (f : Nat) : Bool := decide (canon f = 0)
mutual
/-- right, within so many -/
def rightV : VT → Nat → Bool
  | .mk k n f s ns its, far =>
    if far < 1 then false
    else if k = 1 then its.isEmpty && ns.isEmpty && zeroB f && s.isEmpty && decide (n = 0 ∨ n = 1)
    else if k = 2 then its.isEmpty && ns.isEmpty && zeroB f && s.isEmpty
    else if k = 3 then its.isEmpty && ns.isEmpty && decide (n = 0) && s.isEmpty
    else if k = 4 then its.isEmpty && ns.isEmpty && zeroB f && decide (n = 0) && decide (s.length ≤ 200)
    else if k = 5 then zeroB f && decide (n = 0) && s.isEmpty && ns.isEmpty && rightL its (far - 1)
    else if k = 6 then zeroB f && decide (n = 0) && s.isEmpty && (risesB ns && decide (ns.length = its.length)) && rightL its (far - 1)
    else false
def rightL : List VT → Nat → Bool
  | [], _ => true
  | x :: xs, far => rightV x far && rightL xs far
end
/-- a right value -/
def rightB (v : VT) : Bool := decide (countV v 0 ≤ 200) && rightV v 12

/-- a number's bytes: seven bits each, the last ones first -/
def uintB : Nat → Nat → List UInt8
  | 0, _ => []
  | f + 1, n => if n < 128 then [UInt8.ofNat n] else UInt8.ofNat (n % 128 + 128) :: uintB f (n / 128)
def uintS (n : Nat) : List UInt8 := uintB 10 n
def zig (n : Int) : Nat := if n < 0 then (-1 - n).toNat * 2 + 1 else n.toNat * 2
def strE (s : List UInt8) : List UInt8 := uintS s.length ++ s
def fltE (b : Nat) : List UInt8 := [56, 48, 40, 32, 24, 16, 8, 0].map fun i => UInt8.ofNat (b / 2 ^ i % 256)
mutual
/-- a right value's bytes -/
def encV : VT → List UInt8
  | .mk k n f s ns its =>
    UInt8.ofNat k.toNat :: (if k = 1 then [UInt8.ofNat n.toNat] else if k = 2 then uintS (zig n) else if k = 3 then fltE (canon f) else if k = 4 then strE s
      else uintS its.length ++ encL (k = 6) ns its)
def encL : Bool → List (List UInt8) → List VT → List UInt8
  | _, _, [] => []
  | named, ns, x :: xs => (if named then strE (ns.headD []) else []) ++ (encV x ++ encL named ns.tail xs)
end
end Go.Proofs.YtnaamiecljinnaaGreat
