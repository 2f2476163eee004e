/-
  The walk of awake, as the snapshot's laws ask it.
-/
import Derived.Test.YtnaamiecljinnaaGreatS9
namespace Go.Proofs.YtnaamiecljinnaaGreat
open Go.RowKit

theorem Ints.sl {B : Nat} {v : Value} {l : List Int} {w : World} (h : Ints B v l w) : IntSl w l v := by
  have hc := fun g => World.ownsRow.cells (g := g) h
  rcases h.2 with ⟨rfl, h0⟩ | ⟨g, cap, cur, rfl, _⟩
  · exact ⟨none, 0, by rw [h0], fun i hi => by omega⟩
  · refine ⟨_, cap, rfl, fun i hi => ⟨g, 0, rfl, ?_⟩⟩
    have := hc g rfl i (.int .i64 (l.getD i 0)) (by unfold intVs; rw [List.getElem?_map, List.getElem?_eq_getElem hi]; simp [List.getD, hi])
    rw [← this]
    congr 1
    unfold Addr.add
    split <;> simp_all
theorem Ints.below {B : Nat} {v : Value} {l : List Int} {w w' : World} (h : Ints B v l w) (hb : Below w.heap.size w w') : Ints B v l w' :=
  World.ownsRow.kept (row := none) h ⟨hb.os, hb.tape, hb.output, hb.size, fun k hk _ => hb.block k hk⟩ (Classical.em _)
theorem StrSl.of_block {w : World} {g : Nat} {l : List (List UInt8)} (N : Nat) (hN : l.length = N) (h : w.heap[g]? = some (.cells (l.map fun s => Value.string ⟨s.toArray⟩).toArray 9 (0, 0))) : StrSl w l (.slice (some ⟨g, 0, none⟩) N N) := by
  subst hN
  refine ⟨_, _, rfl, fun i hi => ⟨g, 0, rfl, lt_of_block h, ?_⟩⟩
  rw [Lib.cell_of_heap h]
  simp [List.getD, hi]
theorem IntSl.of_block {w : World} {g : Nat} {l : List Int} (N : Nat) (hN : l.length = N) (h : w.heap[g]? = some (.cells (l.map (Value.int .i64)).toArray 3 (0, 0))) : IntSl w l (.slice (some ⟨g, 0, none⟩) N N) := by
  subst hN
  refine ⟨_, _, rfl, fun i hi => ⟨g, 0, rfl, ?_⟩⟩
  rw [Lib.cell_of_heap h]
  simp [List.getD, hi]

set_option maxRecDepth 100000 in
set_option maxHeartbeats 8000000 in
theorem awake_any (w : World) : Calls Tryz.prog 6 #[] w (Gives (.bool true) w) := by
  have HB := Lib.hid (fun w => (show Calls Tryz.prog 8 #[.agg #[.int .i64 0, .int .i64 0, .slice none 0 0, .slice none 0 0, .slice none 0 0, .slice none 0 0, .slice none 0 0]] w (Gives (.tuple #[.string ⟨#[83, 78, 80, 49, 0, 0, 0, 0, 0, 0, 0]⟩, .int .i64 0]) w) from bytes_bare 0 0 [0, 0] (by decide) w))
  have HC := Lib.hid (fun w => (show Calls Tryz.prog 8 #[.agg #[.int .i64 (-1), .int .i64 0, .slice none 0 0, .slice none 0 0, .slice none 0 0, .slice none 0 0, .slice none 0 0]] w (Gives (.tuple #[.string ⟨#[]⟩, .int .i64 5]) w) from bytes_bad (-1) 0 (by decide) w))
  have HR := Lib.hid (fun w => (show Calls Tryz.prog 10 #[.string ⟨#[83, 78, 80, 49, 2, 1, 0, 1, 0, 1, 3, 1, 0, 0, 0]⟩] w fun e w' => ∃ x, e = .returned (.tuple #[x, .int .i64 0]) ∧ AwPart w.heap.size x w' ∧ Below w.heap.size w w' from read_aw w))
  have hdif : difs [[97], [98]] [[97], [99], [100]] 3 = [1, 2] := by decide
  have HD := Lib.hid (fun u v w hu hv => (differ_any [[97], [98]] [[97], [99], [100]] u v w hu hv (by decide) (by decide)).mono fun e w' (h : ∃ x, e = .returned x ∧ Ints w.heap.size x (difs [[97], [98]] [[97], [99], [100]] 3) w' ∧ Below w.heap.size w w') => (show ∃ x, e = .returned x ∧ Ints w.heap.size x [1, 2] w' ∧ Below w.heap.size w w' from by rw [← hdif]; exact h))
  clear hdif
  have HS := Lib.hid (fun u v w hu hv => rints_same [1, 2] u v w hu hv (by decide))
  go_enter Tryz.func6, Tryz.ntmps6
  go_wp2_with fail
  refine (HB.out _).mono ?_; rintro e w1 ⟨rfl, hb1⟩
  go_wp2_with fail
  refine (HC.out _).mono ?_; rintro e w2 ⟨rfl, hb2⟩
  have hB2 := hb1.trans (hb2.mono hb1.size)
  go_wp2_with fail
  refine (HR.out _).mono ?_; rintro e w3 ⟨x, rfl, ⟨g, cap, rfl, hg1, hg2, hg3⟩, hb3⟩
  have hB3 := hB2.trans (hb3.mono hB2.size)
  go_wp2_with fail
  have z1 : (w3.alloc (.cells #[.int .i64 2, .int .i64 1, .slice none 0 0, .slice (some ⟨g, 0, none⟩) 1 cap, .slice none 0 0, .slice none 0 0, .slice none 0 0] 28)).heap.size = w3.heap.size + 1 := by simp
  have z2 : ((w3.alloc (.cells #[.int .i64 2, .int .i64 1, .slice none 0 0, .slice (some ⟨g, 0, none⟩) 1 cap, .slice none 0 0, .slice none 0 0, .slice none 0 0] 28)).alloc (.cells #[.string ⟨#[97]⟩, .string ⟨#[98]⟩] 9)).heap.size = w3.heap.size + 1 + 1 := by simp
  have n2 := heap_alloc_new (w3.alloc (.cells #[.int .i64 2, .int .i64 1, .slice none 0 0, .slice (some ⟨g, 0, none⟩) 1 cap, .slice none 0 0, .slice none 0 0, .slice none 0 0] 28)) (.cells #[.string ⟨#[97]⟩, .string ⟨#[98]⟩] 9)
  have n3 := heap_alloc_new ((w3.alloc (.cells #[.int .i64 2, .int .i64 1, .slice none 0 0, .slice (some ⟨g, 0, none⟩) 1 cap, .slice none 0 0, .slice none 0 0, .slice none 0 0] 28)).alloc (.cells #[.string ⟨#[97]⟩, .string ⟨#[98]⟩] 9)) (.cells #[.string ⟨#[97]⟩, .string ⟨#[99]⟩, .string ⟨#[100]⟩] 9)
  rw [z1] at n2
  rw [z2] at n3
  have n2' : (((w3.alloc (.cells #[.int .i64 2, .int .i64 1, .slice none 0 0, .slice (some ⟨g, 0, none⟩) 1 cap, .slice none 0 0, .slice none 0 0, .slice none 0 0] 28)).alloc (.cells #[.string ⟨#[97]⟩, .string ⟨#[98]⟩] 9)).alloc (.cells #[.string ⟨#[97]⟩, .string ⟨#[99]⟩, .string ⟨#[100]⟩] 9)).heap[w3.heap.size + 1]? = some (.cells #[.string ⟨#[97]⟩, .string ⟨#[98]⟩] 9 (0, 0)) := (Lib.alloc_old _ _ _ (by rw [z2]; omega)).trans n2
  have hB6 : Below w.heap.size w (((w3.alloc (.cells #[.int .i64 2, .int .i64 1, .slice none 0 0, .slice (some ⟨g, 0, none⟩) 1 cap, .slice none 0 0, .slice none 0 0, .slice none 0 0] 28)).alloc (.cells #[.string ⟨#[97]⟩, .string ⟨#[98]⟩] 9)).alloc (.cells #[.string ⟨#[97]⟩, .string ⟨#[99]⟩, .string ⟨#[100]⟩] 9)) := ((hB3.alloc hB3.size _).alloc (by have := hB3.size; simp; omega) _).alloc (by have := hB3.size; simp; omega) _
  have hB6s := hB6.size
  refine (HD.out _ _ _ (StrSl.of_block (l := [[97], [98]]) 2 rfl n2') (StrSl.of_block (l := [[97], [99], [100]]) 3 rfl n3)).mono ?_
  rintro e w7 ⟨x, rfl, hx, hb7⟩
  have hB7 := hB6.trans (hb7.mono hB6s)
  have hB7s := hB7.size
  go_wp2_with fail
  have hx8 := Ints.below hx ((Below.refl _ _).alloc (Nat.le_refl _) (.cells #[.int .i64 1, .int .i64 2] 3))
  refine (HS.out _ _ _ hx8.sl (IntSl.of_block (l := [1, 2]) 2 rfl (heap_alloc_new w7 _))).mono ?_
  rintro e w8 ⟨rfl, q, rfl⟩
  go_wp2_with fail
  go_ret
  exact ⟨rfl, (hB7.alloc hB7s _).trans ⟨rfl, rfl, rfl, Nat.le_refl _, fun _ _ => rfl⟩⟩
end Go.Proofs.YtnaamiecljinnaaGreat
