/-
  Lists of tokens in memory: kept behind calls that leave what is there; the cells of each token.
-/
import Derived.Test.YtkcbkfflabkcgaaDoorKe
namespace Go.Proofs.YtkcbkfflabkcgaaDoor
open Go.RowKit

theorem Toks.below {B : Nat} {v : Value} {l : List Tk} {w w' : World} (h : Toks B v l w) (hb : Below w.heap.size w w') : Toks B v l w' :=
  World.ownsRow.kept (row := none) h ⟨hb.os, hb.tape, hb.output, hb.size, fun k hk _ => hb.block k hk⟩ (Classical.em _)
theorem rowsOf_get : ∀ (l : List Tk) (i j : Nat), i < l.length → j < 6 → (rowsOf l)[i * 6 + j]? = (tokCells (l.getD i noTk))[j]?
  | [], _, _, h, _ => by simp at h
  | k :: l, 0, j, _, hj => by
    show ((tokCells k).toList ++ rowsOf l)[0 * 6 + j]? = _
    rw [Nat.zero_mul, Nat.zero_add, List.getElem?_append_left (by simpa [tokCells] using hj)]
    simp
  | k :: l, i + 1, j, h, hj => by
    show ((tokCells k).toList ++ rowsOf l)[(i + 1) * 6 + j]? = _
    have hlen : (tokCells k).toList.length = 6 := rfl
    rw [List.getElem?_append_right (by omega), hlen, show (i + 1) * 6 + j - 6 = i * 6 + j by omega, rowsOf_get l i j (by simpa using h) hj]
    rfl
theorem Toks.form {B : Nat} {v : Value} {l : List Tk} {w : World} (h : Toks B v l w) (hl : 0 < l.length) : ∃ g cap, v = .slice (some ⟨g, 0, none⟩) l.length cap ∧ g < w.heap.size ∧ ∀ i j, i < l.length → j < 6 → w.cell? ⟨g, i * 6 + j, none⟩ = (tokCells (l.getD i noTk))[j]? := by
  have hc := fun g => World.ownsRow.cells (g := g) h
  rcases h.2 with ⟨_, h0⟩ | ⟨g, cap, cur, rfl, _, hg, _⟩
  · omega
  · refine ⟨g, cap, rfl, lt_of_block hg, fun i j hi hj => ?_⟩
    have h1 := rowsOf_get l i j hi hj
    have h2 : ∃ u, (tokCells (l.getD i noTk))[j]? = some u := by
      have : j < (tokCells (l.getD i noTk)).size := hj
      exact ⟨_, Array.getElem?_eq_getElem this⟩
    obtain ⟨u, hu⟩ := h2
    have h3 := hc g rfl (i * 6 + j) u (by rw [h1, hu])
    rw [hu, ← h3]
    congr 1
    unfold Addr.add
    split <;> simp_all
theorem Toks.nil {B : Nat} {v : Value} {w : World} (h : Toks B v [] w) : ∃ p cap, v = .slice p 0 cap := by
  rcases h.2 with ⟨rfl, _⟩ | ⟨g, cap, cur, rfl, _⟩
  · exact ⟨_, _, rfl⟩
  · exact ⟨_, _, rfl⟩
end Go.Proofs.YtkcbkfflabkcgaaDoor
