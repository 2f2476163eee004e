/-
  Values in memory: what a tree looks like there; that it stays so behind whatever leaves old memory alone.
-/
import Derived.Test.YtnaamiecljinnaaGreatChecked
import Derived.Test.YtnaamiecljinnaaGreatV1
import Derived.WalkKit
import Derived.Tactics
import Derived.Tactics2
import Derived.Below
import Derived.Lib.Hide
namespace Go.Proofs.YtnaamiecljinnaaGreat
open Go.RowKit

def Strs (w : World) (l : List (List UInt8)) (v : Value) : Prop :=
  l.length ≤ 140737488355328 ∧ (∀ s ∈ l, s.length ≤ 140737488355328) ∧
  ((l = [] ∧ ∃ p c, v = .slice p 0 c) ∨ ∃ g off cap, v = .slice (some ⟨g, off, none⟩) l.length cap ∧ g < w.heap.size ∧ ∀ i, i < l.length → w.cell? ⟨g, off + i, none⟩ = some (.string ⟨(l.getD i []).toArray⟩))
def noVT : VT := .mk 0 0 0 [] [] []
/-- the cells of a value, so many deep -/
def ValAt (w : World) : Nat → VT → Array Value → Prop
  | 0, _, _ => False
  | d + 1, v, cs => ∃ pn pi, cs = #[.int .i64 v.kind, .int .i64 v.num, .float .f64 v.flt, .string ⟨v.str.toArray⟩, pn, pi] ∧
      (-9223372036854775808 ≤ v.kind ∧ v.kind ≤ 9223372036854775807) ∧ (-9223372036854775808 ≤ v.num ∧ v.num ≤ 9223372036854775807) ∧ F64 v.flt ∧ v.str.length ≤ 140737488355328 ∧ Strs w v.names pn ∧ v.items.length ≤ 140737488355328 ∧
      ((v.items = [] ∧ ∃ p c, pi = .slice p 0 c) ∨ ∃ g off cap, pi = .slice (some ⟨g, off, none⟩) v.items.length cap ∧ g < w.heap.size ∧
        ∀ i, i < v.items.length → ∃ ds, ValAt w d (v.items.getD i noVT) ds ∧ ∀ j, j < 6 → w.cell? ⟨g, off + i * 6 + j, none⟩ = ds[j]?)
theorem Strs.kept {w w' : World} {l : List (List UInt8)} {v : Value} (h : Strs w l v) (hb : Below w.heap.size w w') : Strs w' l v := by
  obtain ⟨h1, h2, h | ⟨g, off, cap, h3, h4, h5⟩⟩ := h
  · exact ⟨h1, h2, .inl h⟩
  · exact ⟨h1, h2, .inr ⟨g, off, cap, h3, Nat.lt_of_lt_of_le h4 hb.size, fun i hi => (hb.cell (p := ⟨g, off + i, none⟩) h4).trans (h5 i hi)⟩⟩
theorem ValAt.kept {w w' : World} (hb : Below w.heap.size w w') : ∀ (d : Nat) (v : VT) (cs : Array Value), ValAt w d v cs → ValAt w' d v cs
  | 0, _, _, h => h
  | d + 1, v, cs, h => by
    obtain ⟨pn, pi, h1, h2, h3, h4, h5, h6, h7, h8⟩ := h
    refine ⟨pn, pi, h1, h2, h3, h4, h5, h6.kept hb, h7, ?_⟩
    rcases h8 with h8 | ⟨g, off, cap, a1, a2, a3⟩
    · exact .inl h8
    · refine .inr ⟨g, off, cap, a1, Nat.lt_of_lt_of_le a2 hb.size, fun i hi => ?_⟩
      obtain ⟨ds, b1, b2⟩ := a3 i hi
      exact ⟨ds, ValAt.kept hb d _ ds b1, fun j hj => (hb.cell (p := ⟨g, off + i * 6 + j, none⟩) a2).trans (b2 j hj)⟩
theorem ValAt.more {w : World} : ∀ (d : Nat) (v : VT) (cs : Array Value), ValAt w d v cs → ValAt w (d + 1) v cs
  | 0, _, _, h => h.elim
  | d + 1, v, cs, h => by
    obtain ⟨pn, pi, h1, h2, h3, h4, h5, h6, h7, h8⟩ := h
    refine ⟨pn, pi, h1, h2, h3, h4, h5, h6, h7, ?_⟩
    rcases h8 with h8 | ⟨g, off, cap, a1, a2, a3⟩
    · exact .inl h8
    · refine .inr ⟨g, off, cap, a1, a2, fun i hi => ?_⟩
      obtain ⟨ds, b1, b2⟩ := a3 i hi
      exact ⟨ds, ValAt.more d _ ds b1, b2⟩
end Go.Proofs.YtnaamiecljinnaaGreat
