/-
  Fo in one text.
-/
import Derived.Below
import Derived.Deep.QuietTactic
import Derived.Lib.Builder
import Derived.OneCell
import Derived.OwnWalk
import Derived.Test.YthponidjednfbaaGreatDoorChecked
namespace Go.Proofs.YthponidjednfbaaGreatDoor
open Go.RowKit
/-- all blocks that were there, but for those of l, are as they were -/
structure Fr (l : List Nat) (w w' : World) : Prop where
  os : w'.os = w.os
  tape : w'.tape = w.tape
  output : w'.output = w.output
  size : w.heap.size ≤ w'.heap.size
  block : ∀ k, k < w.heap.size → k ∉ l → w'.heap[k]? = w.heap[k]?
theorem Fr.refl (l : List Nat) (w : World) : Fr l w w := ⟨rfl, rfl, rfl, Nat.le_refl _, fun _ _ _ => rfl⟩
theorem Fr.trans {l : List Nat} {a b c : World} (h : Fr l a b) (k : Fr l b c) : Fr l a c :=
  ⟨k.os.trans h.os, k.tape.trans h.tape, k.output.trans h.output, Nat.le_trans h.size k.size, fun i hi hn => (k.block i (Nat.lt_of_lt_of_le hi h.size) hn).trans (h.block i hi hn)⟩
theorem Fr.mono {l m : List Nat} {w w' : World} (h : Fr l w w') (hlm : ∀ x ∈ l, x ∈ m) : Fr m w w' := ⟨h.os, h.tape, h.output, h.size, fun k hk hn => h.block k hk (fun hx => hn (hlm k hx))⟩
theorem Fr.below {l : List Nat} {B : Nat} {w w' : World} (h : Fr l w w') (hB : B ≤ w.heap.size) (hl : ∀ x ∈ l, B ≤ x) : Below B w w' :=
  ⟨h.os, h.tape, h.output, h.size, fun k hk => h.block k (Nat.lt_of_lt_of_le hk hB) (fun hx => by have := hl k hx; omega)⟩
theorem Fr.alloc {l : List Nat} {a w : World} (h : Fr l a w) (o : Obj) : Fr l a (w.alloc o) :=
  h.trans ⟨rfl, rfl, rfl, by simp, fun k hk _ => Lib.alloc_old w o k hk⟩
theorem Fr.at {l : List Nat} {w w' : World} {k : Nat} {x : Obj} (h : Fr l w w') (hk : w.heap[k]? = some x) (hn : k ∉ l) : w'.heap[k]? = some x := (h.block k (Array.getElem?_eq_some_iff.1 hk).1 hn).trans hk
theorem undrew {w w' : World} (h : Below w.drew.heap.size w.drew w') : Below w.heap.size w w' := ⟨h.os, h.tape, h.output, h.size, h.block⟩
end Go.Proofs.YthponidjednfbaaGreatDoor
