/-
  Bytes in memory of the call's own.
-/
import Derived.Test.YtkcbkfflabkcgaaDoorKb
namespace Go.Proofs.YtkcbkfflabkcgaaDoor
open Go.RowKit

/-- bytes in memory of the call's own -/
def Byts (B : Nat) (v : Value) (o : List UInt8) (w : World) : Prop := w.ownsRow B 5 1 v o.length (Lib.byteCells o) ∧ ∃ g cap, v = .slice (some ⟨g, 0, none⟩) o.length cap
theorem Byts.apart {B t : Nat} {v : Value} {o : List UInt8} {k : Tk} {w : World} (h : Byts B v o w) (hx : TokAt t k w) : v.ownBlock ≠ some t := by
  exact Lib.ownBlock_neF (World.ownsRowF_of h.1) hx (by decide)
theorem Byts.put {B t : Nat} {v : Value} {o : List UInt8} {k : Tk} {w : World} (h : Byts B v o w) (hx : TokAt t k w) (i : Nat) (x : Value) : Byts B v o (w.setCell ⟨t, i, none⟩ x) :=
  ⟨h.1.kept (row := some t) ⟨rfl, rfl, rfl, by simp [World.setCell], fun k _ hk => Below.heap_setCell _ _ _ _ (fun e => hk (by simp [e]))⟩ (.inr (h.apart hx)), h.2⟩
theorem Byts.conv {B : Nat} {v : Value} {o : List UInt8} {w : World} (h : Byts B v o w) : (convert 22 9 v).run Tryd.prog w = .ok (.string ⟨o.toArray⟩) w := by
  obtain ⟨h1, g, cap, rfl⟩ := h
  refine run_convert_bytes_back w 22 9 5 ⟨g, 0, none⟩ cap o Tryd.underlying22 Tryd.underlying5 Tryd.underlying9 ?_
  intro j hj
  refine h1.cells (g := g) rfl j _ ?_
  simp [Lib.byteCells, hj]
theorem Byts.grow {B : Nat} {v' : Value} {o : List UInt8} {c : UInt8} {w : World} (h : w.ownsRow B 5 1 v' (o.length + 1) (Lib.byteCells o ++ [.int .u8 c.toNat])) : Byts B v' (o ++ [c]) w := by
  refine ⟨?_, ?_⟩
  · rw [Lib.byteCells_append, List.length_append]; exact h
  · rw [List.length_append]
    rcases h.2 with ⟨_, h0⟩ | ⟨g, cap, cur, hv, _⟩
    · simp at h0
    · exact ⟨g, cap, hv⟩
end Go.Proofs.YtkcbkfflabkcgaaDoor
