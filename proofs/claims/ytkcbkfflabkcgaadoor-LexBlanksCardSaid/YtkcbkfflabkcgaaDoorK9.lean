/-
  The walk of the lexer's number, whatever stands there.
-/
import Derived.Test.YtkcbkfflabkcgaaDoorK7
namespace Go.Proofs.YtkcbkfflabkcgaaDoor
open Go.RowKit

theorem noByte {s : ByteArray} {i : Nat} {c : UInt8} (h : ¬ s.data.toList[i]? = some c) : (decide ((i : Int) < (s.size : Int)) = false ∧ ¬ i < s.size) ∨ ∃ h : i < s.size, (((s[i]'h).toNat : Int) == (c.toNat : Int)) = false := by
  by_cases hi : i < s.size
  · refine .inr ⟨hi, ?_⟩
    rw [beq_eq_false_iff_ne]
    intro e
    exact h ((at_byte s i c).2 ⟨hi, by rw [beq_iff_eq]; exact e⟩)
  · exact .inl ⟨by simp; omega, hi⟩
theorem lnumber_any (s : ByteArray) (hs : s.size ≤ 1000000) (a b t B : Nat) (ha : a ≤ s.size) (hbt : b ≠ t) (hBb : B ≤ b) (hBt : B ≤ t) (w : World) (hb : LexAt b s a w) (ht : TokAt t ⟨1, a, 0, 0, 0, []⟩ w) (hE : EnvB B w)
    (h1 : 1 ≤ far isDig s.data.toList a) :
    Calls Tryd.prog 24 #[.pointer (some ⟨b, 0, none⟩), .pointer (some ⟨t, 0, none⟩)] w (Reads b t s a (numS s.data.toList a) w) := by
  by_cases hp : s.data.toList[a + far isDig s.data.toList a]? = some 112
  · by_cases hm : s.data.toList[a + far isDig s.data.toList a + 1]? = some 45
    · exact number_flt1 s hs a b t B ha hbt hBb hBt w hb ht hE hp hm
    · exact number_flt0 s hs a b t B ha hbt hBb hBt w hb ht hE hp (noByte hm)
  · exact number_int s hs a b t B ha hbt hBb hBt w hb ht hE h1 hp (noByte hp)
end Go.Proofs.YtkcbkfflabkcgaaDoor
