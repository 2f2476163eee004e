/-
  What the cells of a block hold, said of all at once.
-/
import Derived.Lib.Builder
import Derived.Lib.Hide
namespace Go.Proofs.YtaaaaggmhjhkkaaGreatDoor
open Go
theorem zh {p : Prop} (h : p) : RowKit.Hid p := h
theorem zc {w : World} {b : Nat} {cs : Array Value} {T : TypeId} {fr : Nat × Nat} (hb : w.heap[b]? = some (.cells cs T fr)) (j : Nat) : w.cell? ⟨b, j, none⟩ = cs[j]? := Lib.cell_of_heap hb j
theorem cells2 {w : World} {G : Nat} {T : TypeId} {z : Nat × Nat} {x0 x1 : Value} (h : w.heap[G]? = some (.cells #[x0, x1] T z)) : w.cell? ⟨G, 0, none⟩ = some x0 ∧ w.cell? ⟨G, 1, none⟩ = some x1 := ⟨by rw [Lib.cell_of_heap h]; rfl, by rw [Lib.cell_of_heap h]; rfl⟩
theorem cells6 {w : World} {G : Nat} {T : TypeId} {z : Nat × Nat} {x0 x1 x2 x3 x4 x5 : Value} (h : w.heap[G]? = some (.cells #[x0, x1, x2, x3, x4, x5] T z)) : w.cell? ⟨G, 0, none⟩ = some x0 ∧ w.cell? ⟨G, 1, none⟩ = some x1 ∧ w.cell? ⟨G, 2, none⟩ = some x2 ∧ w.cell? ⟨G, 3, none⟩ = some x3 ∧ w.cell? ⟨G, 4, none⟩ = some x4 ∧ w.cell? ⟨G, 5, none⟩ = some x5 := ⟨by rw [Lib.cell_of_heap h]; rfl, by rw [Lib.cell_of_heap h]; rfl, by rw [Lib.cell_of_heap h]; rfl, by rw [Lib.cell_of_heap h]; rfl, by rw [Lib.cell_of_heap h]; rfl, by rw [Lib.cell_of_heap h]; rfl⟩
theorem cells10 {w : World} {G : Nat} {T : TypeId} {z : Nat × Nat} {x0 x1 x2 x3 x4 x5 x6 x7 x8 x9 : Value} (h : w.heap[G]? = some (.cells #[x0, x1, x2, x3, x4, x5, x6, x7, x8, x9] T z)) : w.cell? ⟨G, 0, none⟩ = some x0 ∧ w.cell? ⟨G, 1, none⟩ = some x1 ∧ w.cell? ⟨G, 2, none⟩ = some x2 ∧ w.cell? ⟨G, 3, none⟩ = some x3 ∧ w.cell? ⟨G, 4, none⟩ = some x4 ∧ w.cell? ⟨G, 5, none⟩ = some x5 ∧ w.cell? ⟨G, 6, none⟩ = some x6 ∧ w.cell? ⟨G, 7, none⟩ = some x7 ∧ w.cell? ⟨G, 8, none⟩ = some x8 ∧ w.cell? ⟨G, 9, none⟩ = some x9 := ⟨by rw [Lib.cell_of_heap h]; rfl, by rw [Lib.cell_of_heap h]; rfl, by rw [Lib.cell_of_heap h]; rfl, by rw [Lib.cell_of_heap h]; rfl, by rw [Lib.cell_of_heap h]; rfl, by rw [Lib.cell_of_heap h]; rfl, by rw [Lib.cell_of_heap h]; rfl, by rw [Lib.cell_of_heap h]; rfl, by rw [Lib.cell_of_heap h]; rfl, by rw [Lib.cell_of_heap h]; rfl⟩
end Go.Proofs.YtaaaaggmhjhkkaaGreatDoor
