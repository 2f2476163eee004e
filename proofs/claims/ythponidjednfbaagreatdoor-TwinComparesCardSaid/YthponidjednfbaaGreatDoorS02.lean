/-
  Yi in one text.
-/
import Derived.Below
import Derived.Deep.QuietTactic
import Derived.IntWalk
import Derived.Laws.Bits64b
import Derived.Laws.FloatBits
import Derived.Lib.AtoiAll
import Derived.Lib.Builder
import Derived.Lib.Hide
import Derived.Lib.IndexMore
import Derived.Lib.ItoaNum
import Derived.Lib.ParseIntB
import Derived.OneCell
import Derived.OwnWalk
import Derived.Tactics
import Derived.Tactics2
import Derived.Test.YthponidjednfbaaGreatDoorChecked
import Derived.WalkKit
import Ieee.Arith
import Derived.Test.YthponidjednfbaaGreatDoorS00
namespace Go.Proofs.YthponidjednfbaaGreatDoor
open Go.RowKit
def StrsIn (S : Nat → Prop) (w : World) (l : List (List UInt8)) (v : Value) : Prop :=
  l.length ≤ 140737488355328 ∧ (∀ s ∈ l, s.length ≤ 140737488355328) ∧
  ((l = [] ∧ ∃ p c, v = .slice p 0 c) ∨ ∃ g off cap, v = .slice (some ⟨g, off, none⟩) l.length cap ∧ (S g ∧ g < w.heap.size) ∧ ∀ i, i < l.length → w.cell? ⟨g, off + i, none⟩ = some (.string ⟨(l.getD i []).toArray⟩))
/-- the cells of a value, so many deep; its blocks are all of the kind S -/
def ValIn (S : Nat → Prop) (w : World) : Nat → VT → Array Value → Prop
  | 0, _, _ => False
  | d + 1, v, cs => ∃ pn pi, cs = #[.int .i64 v.kind, .int .i64 v.num, .float .f64 v.flt, .string ⟨v.str.toArray⟩, pn, pi] ∧
      (-9223372036854775808 ≤ v.kind ∧ v.kind ≤ 9223372036854775807) ∧ (-9223372036854775808 ≤ v.num ∧ v.num ≤ 9223372036854775807) ∧ F64 v.flt ∧ v.str.length ≤ 140737488355328 ∧ StrsIn S w v.names pn ∧ v.items.length ≤ 140737488355328 ∧
      ((v.items = [] ∧ ∃ p c, pi = .slice p 0 c) ∨ ∃ g off cap, pi = .slice (some ⟨g, off, none⟩) v.items.length cap ∧ (S g ∧ g < w.heap.size) ∧
        ∀ i, i < v.items.length → ∃ ds, ValIn S w d (v.items.getD i noVT) ds ∧ ∀ j, j < 6 → w.cell? ⟨g, off + i * 6 + j, none⟩ = ds[j]?)
theorem cell_same {w w' : World} {g i : Nat} (h : w'.heap[g]? = w.heap[g]?) : w'.cell? ⟨g, i, none⟩ = w.cell? ⟨g, i, none⟩ := by
  unfold World.cell?
  simp only [h]
theorem StrsIn.at {S : Nat → Prop} {w : World} {l : List (List UInt8)} {v : Value} (h : StrsIn S w l v) : Strs w l v := by
  obtain ⟨h1, h2, h | ⟨g, off, cap, h3, h4, h5⟩⟩ := h
  · exact ⟨h1, h2, .inl h⟩
  · exact ⟨h1, h2, .inr ⟨g, off, cap, h3, h4.2, h5⟩⟩
theorem ValIn.at {S : Nat → Prop} {w : World} : ∀ {d : Nat} {v : VT} {cs : Array Value}, ValIn S w d v cs → ValAt w d v cs
  | 0, _, _, h => h.elim
  | d + 1, v, cs, h => by
    obtain ⟨pn, pi, h1, h2, h3, h4, h5, h6, h7, h8⟩ := h
    refine ⟨pn, pi, h1, h2, h3, h4, h5, h6.at, h7, ?_⟩
    rcases h8 with h8 | ⟨g, off, cap, a1, a2, a3⟩
    · exact .inl h8
    · refine .inr ⟨g, off, cap, a1, a2.2, fun i hi => ?_⟩
      obtain ⟨ds, b1, b2⟩ := a3 i hi
      exact ⟨ds, b1.at, b2⟩
/-- another kind that holds each of its blocks; another world that has them all as they were -/
theorem StrsIn.kept {S T : Nat → Prop} {w w' : World} (hs : w.heap.size ≤ w'.heap.size) (hk : ∀ g, S g → g < w.heap.size → T g ∧ w'.heap[g]? = w.heap[g]?) {l : List (List UInt8)} {v : Value} (h : StrsIn S w l v) : StrsIn T w' l v := by
  obtain ⟨h1, h2, h | ⟨g, off, cap, h3, h4, h5⟩⟩ := h
  · exact ⟨h1, h2, .inl h⟩
  · obtain ⟨k1, k2⟩ := hk g h4.1 h4.2
    exact ⟨h1, h2, .inr ⟨g, off, cap, h3, ⟨k1, Nat.lt_of_lt_of_le h4.2 hs⟩, fun i hi => (cell_same k2).trans (h5 i hi)⟩⟩
theorem ValIn.kept {S T : Nat → Prop} {w w' : World} (hs : w.heap.size ≤ w'.heap.size) (hk : ∀ g, S g → g < w.heap.size → T g ∧ w'.heap[g]? = w.heap[g]?) : ∀ {d : Nat} {v : VT} {cs : Array Value}, ValIn S w d v cs → ValIn T w' d v cs
  | 0, _, _, h => h.elim
  | d + 1, v, cs, h => by
    obtain ⟨pn, pi, h1, h2, h3, h4, h5, h6, h7, h8⟩ := h
    refine ⟨pn, pi, h1, h2, h3, h4, h5, h6.kept hs hk, h7, ?_⟩
    rcases h8 with h8 | ⟨g, off, cap, a1, a2, a3⟩
    · exact .inl h8
    · obtain ⟨k1, k2⟩ := hk g a2.1 a2.2
      refine .inr ⟨g, off, cap, a1, ⟨k1, Nat.lt_of_lt_of_le a2.2 hs⟩, fun i hi => ?_⟩
      obtain ⟨ds, b1, b2⟩ := a3 i hi
      exact ⟨ds, ValIn.kept hs hk b1, fun j hj => (cell_same k2).trans (b2 j hj)⟩
end Go.Proofs.YthponidjednfbaaGreatDoor
