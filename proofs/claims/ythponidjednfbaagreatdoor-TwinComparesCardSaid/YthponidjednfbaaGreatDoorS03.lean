/-
  Gn in one text.
-/
import Derived.Below
import Derived.Deep.AppendLies
import Derived.Deep.MidRow
import Derived.Deep.QuietTactic
import Derived.IntWalk
import Derived.Laws.Bits64b
import Derived.Laws.FloatBits
import Derived.Lib.AtoiAll
import Derived.Lib.Builder
import Derived.Lib.FrozenHead2
import Derived.Lib.Hide
import Derived.Lib.IndexMore
import Derived.Lib.ItoaNum
import Derived.Lib.ParseIntB
import Derived.OneCell
import Derived.OwnWalk
import Derived.Tactics
import Derived.Tactics2
import Derived.Test.YthponidjednfbaaGreatDoorChecked
import Derived.WalkKit
import Ieee.Arith
import Derived.Test.YthponidjednfbaaGreatDoorS00
import Derived.Test.YthponidjednfbaaGreatDoorS02
namespace Go.Proofs.YthponidjednfbaaGreatDoor
open Go.RowKit
/-- a kind of item: its cells, its own blocks all of a kind S -/
structure ItemK (α : Type) (sz : Nat) where
  at_ : (Nat → Prop) → World → α → Array Value → Prop
  size : ∀ {S : Nat → Prop} {w : World} {x : α} {ds : Array Value}, at_ S w x ds → ds.size = sz
  kept : ∀ {S T : Nat → Prop} {w w' : World} {x : α} {ds : Array Value}, w.heap.size ≤ w'.heap.size → (∀ g, S g → g < w.heap.size → T g ∧ w'.heap[g]? = w.heap[g]?) → at_ S w x ds → at_ T w' x ds
/-- a list behind a slice -/
def SlG {α : Type} {sz : Nat} (I : ItemK α sz) (S : Nat → Prop) (w : World) (v : Value) (l : List α) : Prop :=
  ∃ p cap, v = .slice p l.length cap ∧ l.length ≤ 140737488355328 ∧ ∀ i x, l[i]? = some x → ∃ g off, p = some ⟨g, off, none⟩ ∧ S g ∧ g < w.heap.size ∧ ∃ ds : Array Value, I.at_ S w x ds ∧ ∀ j, j < sz → w.cell? ⟨g, off + i * sz + j, none⟩ = ds[j]?
theorem SlG.kept {α : Type} {sz : Nat} {I : ItemK α sz} {S T : Nat → Prop} {w w' : World} {v : Value} {l : List α} (hs : w.heap.size ≤ w'.heap.size) (hk : ∀ g, S g → g < w.heap.size → T g ∧ w'.heap[g]? = w.heap[g]?) (h : SlG I S w v l) : SlG I T w' v l := by
  obtain ⟨p, c, h1, h2, h3⟩ := h
  refine ⟨p, c, h1, h2, fun i x hx => ?_⟩
  obtain ⟨g, off, h4, h5, h6, ds, h7, h8⟩ := h3 i x hx
  obtain ⟨k1, k2⟩ := hk g h5 h6
  exact ⟨g, off, h4, k1, Nat.lt_of_lt_of_le h6 hs, ds, I.kept hs hk h7, fun j hj => (cell_same k2).trans (h8 j hj)⟩
theorem SlG.below {α : Type} {sz : Nat} {I : ItemK α sz} {S : Nat → Prop} {w w' : World} {v : Value} {l : List α} (hb : Below w.heap.size w w') (h : SlG I S w v l) : SlG I S w' v l :=
  h.kept hb.size fun g h1 h2 => ⟨h1, hb.block g h2⟩
/-- the cells of the i-th item -/
theorem SlG.item {α : Type} {sz : Nat} {I : ItemK α sz} {S : Nat → Prop} {w : World} {p : Option Addr} {n c : Nat} {l : List α} (h : SlG I S w (.slice p n c) l) {i : Nat} {x : α} (hx : l[i]? = some x) :
    ∃ g off, p = some ⟨g, off, none⟩ ∧ S g ∧ g < w.heap.size ∧ ∃ ds : Array Value, I.at_ S w x ds ∧ w.rangeAt g (off + i * sz) ds.toList := by
  obtain ⟨p', c', h1, h2, h3⟩ := h
  injection h1 with h1 _ _
  subst h1
  obtain ⟨g, off, h4, h5, h6, ds, h7, h8⟩ := h3 i x hx
  refine ⟨g, off, h4, h5, h6, ds, h7, fun j v hv => ?_⟩
  have hj : j < sz := by
    have := (List.getElem?_eq_some_iff.1 hv).1
    rw [Array.length_toList, I.size h7] at this
    exact this
  rw [h8 j hj]; simpa using hv
end Go.Proofs.YthponidjednfbaaGreatDoor
