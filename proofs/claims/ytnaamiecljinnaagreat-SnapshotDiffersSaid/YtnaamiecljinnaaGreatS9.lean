/-
  The walk of the snapshot's Read at the bytes that awake asks of.
-/
import Derived.Test.YtnaamiecljinnaaGreatS8
namespace Go.Proofs.YtnaamiecljinnaaGreat
open Go.RowKit

set_option maxRecDepth 100000 in
set_option maxHeartbeats 8000000 in
theorem read_aw (w : World) : Calls Tryz.prog 10 #[.string awS] w fun e w' => ∃ x, e = .returned (.tuple #[x, .int .i64 0]) ∧ AwPart w.heap.size x w' ∧ Below w.heap.size w w' := by
  have HP := Lib.hid (fun b w hb => part_aw b w hb)
  have hz1 : (w.alloc (.cells #[.int .i64 0, .int .i64 0, .slice none 0 0, .slice none 0 0, .slice none 0 0, .slice none 0 0, .slice none 0 0] 28)).heap.size = w.heap.size + 1 := by simp
  have hz2 : ((w.alloc (.cells #[.int .i64 0, .int .i64 0, .slice none 0 0, .slice none 0 0, .slice none 0 0, .slice none 0 0, .slice none 0 0] 28)).alloc (.cells #[.int .i64 0] 31)).heap.size = w.heap.size + 1 + 1 := by simp
  have h0 := heap_alloc_new w (.cells #[.int .i64 0, .int .i64 0, .slice none 0 0, .slice none 0 0, .slice none 0 0, .slice none 0 0, .slice none 0 0] 28)
  have f0 := (Fr.refl [] w).alloc (.cells #[.int .i64 0, .int .i64 0, .slice none 0 0, .slice none 0 0, .slice none 0 0, .slice none 0 0, .slice none 0 0] 28)
  generalize hW1 : w.alloc (.cells #[.int .i64 0, .int .i64 0, .slice none 0 0, .slice none 0 0, .slice none 0 0, .slice none 0 0, .slice none 0 0] 28) = W1 at *
  have h1 := heap_alloc_new W1 (.cells #[.int .i64 0] 31)
  have k1 := (Fr.refl [] W1).alloc (.cells #[.int .i64 0] 31)
  generalize hW2 : W1.alloc (.cells #[.int .i64 0] 31) = W2 at *
  have h2 := heap_alloc_new W2 (.cells #[.string awS, .int .i64 0] 86)
  have k2 := (Fr.refl [] W2).alloc (.cells #[.string awS, .int .i64 0] 86)
  have hz3 : (W2.alloc (.cells #[.string awS, .int .i64 0] 86)).heap.size = W2.heap.size + 1 := by simp
  have g0 := (k1.trans k2).at h0 (by simp)
  have g1 := k2.at h1 (by simp)
  have hbF := (f0.trans k1).trans k2
  rw [hz1] at g1
  rw [hz2] at h2 hz3
  have HW1 := Lib.hid hW1; have HW2 := Lib.hid hW2
  clear f0 k1 k2 h0 h1 hW1 hW2 hz1 hz2
  have HR : SrB (w.heap.size + 1 + 1) awS 0 (W2.alloc (.cells #[.string awS, .int .i64 0] 86)) := h2
  have HPP := Lib.hid (HP.out _ _ HR)
  go_enter_defers Tryz.func10, Tryz.ntmps10
  go_wp2_with fail
  rw [HW1.out, HW2.out]
  refine (HPP.out).mono ?_; rintro e w3 ⟨x, rfl, ⟨g, cap, rfl, hg1, hg2, hg3⟩, hf3⟩
  have b3 := hf3.at g0 (by simp <;> omega)
  have e3 := hf3.at g1 (by simp <;> omega)
  have b4 : (w3.alloc (.cells #[.int .i64 2, .int .i64 1, .slice none 0 0, .slice (some ⟨g, 0, none⟩) 1 cap, .slice none 0 0, .slice none 0 0, .slice none 0 0] 28)).heap[w.heap.size]? = some (.cells #[.int .i64 0, .int .i64 0, .slice none 0 0, .slice none 0 0, .slice none 0 0, .slice none 0 0, .slice none 0 0] 28 (0, 0)) := (Lib.alloc_old w3 _ _ (lt_of_block b3)).trans b3
  have e4 : (w3.alloc (.cells #[.int .i64 2, .int .i64 1, .slice none 0 0, .slice (some ⟨g, 0, none⟩) 1 cap, .slice none 0 0, .slice none 0 0, .slice none 0 0] 28)).heap[w.heap.size + 1]? = some (.cells #[.int .i64 0] 31 (0, 0)) := (Lib.alloc_old w3 _ _ (lt_of_block e3)).trans e3
  have n4 : (w3.alloc (.cells #[.int .i64 2, .int .i64 1, .slice none 0 0, .slice (some ⟨g, 0, none⟩) 1 cap, .slice none 0 0, .slice none 0 0, .slice none 0 0] 28)).heap[w3.heap.size]? = some (.cells #[.int .i64 2, .int .i64 1, .slice none 0 0, .slice (some ⟨g, 0, none⟩) 1 cap, .slice none 0 0, .slice none 0 0, .slice none 0 0] 28 (0, 0)) := heap_alloc_new w3 _
  have l4 : (w3.alloc (.cells #[.int .i64 2, .int .i64 1, .slice none 0 0, .slice (some ⟨g, 0, none⟩) 1 cap, .slice none 0 0, .slice none 0 0, .slice none 0 0] 28)).heap.size = w3.heap.size + 1 := by simp
  have F4 := (Fr.refl [] w3).alloc (.cells #[.int .i64 2, .int .i64 1, .slice none 0 0, .slice (some ⟨g, 0, none⟩) 1 cap, .slice none 0 0, .slice none 0 0, .slice none 0 0] 28)
  have hs3 : w.heap.size + 1 + 1 < w3.heap.size := by have := hf3.size; rw [hz3] at this; omega
  have c0 : (w3.alloc (.cells #[.int .i64 2, .int .i64 1, .slice none 0 0, .slice (some ⟨g, 0, none⟩) 1 cap, .slice none 0 0, .slice none 0 0, .slice none 0 0] 28)).cell? ⟨w.heap.size, 0, none⟩ = some (.int .i64 0) := by rw [Lib.cell_of_heap b4]; rfl
  have z0 : (w3.alloc (.cells #[.int .i64 2, .int .i64 1, .slice none 0 0, .slice (some ⟨g, 0, none⟩) 1 cap, .slice none 0 0, .slice none 0 0, .slice none 0 0] 28)).frozen? ⟨w.heap.size, 0, none⟩ = false := Lib.frozen_of_heap b4 0
  have c1 : (w3.alloc (.cells #[.int .i64 2, .int .i64 1, .slice none 0 0, .slice (some ⟨g, 0, none⟩) 1 cap, .slice none 0 0, .slice none 0 0, .slice none 0 0] 28)).cell? ⟨w.heap.size, 1, none⟩ = some (.int .i64 0) := by rw [Lib.cell_of_heap b4]; rfl
  have z1 : (w3.alloc (.cells #[.int .i64 2, .int .i64 1, .slice none 0 0, .slice (some ⟨g, 0, none⟩) 1 cap, .slice none 0 0, .slice none 0 0, .slice none 0 0] 28)).frozen? ⟨w.heap.size, 1, none⟩ = false := Lib.frozen_of_heap b4 1
  have c2 : (w3.alloc (.cells #[.int .i64 2, .int .i64 1, .slice none 0 0, .slice (some ⟨g, 0, none⟩) 1 cap, .slice none 0 0, .slice none 0 0, .slice none 0 0] 28)).cell? ⟨w.heap.size, 2, none⟩ = some (.slice none 0 0) := by rw [Lib.cell_of_heap b4]; rfl
  have z2 : (w3.alloc (.cells #[.int .i64 2, .int .i64 1, .slice none 0 0, .slice (some ⟨g, 0, none⟩) 1 cap, .slice none 0 0, .slice none 0 0, .slice none 0 0] 28)).frozen? ⟨w.heap.size, 2, none⟩ = false := Lib.frozen_of_heap b4 2
  have c3 : (w3.alloc (.cells #[.int .i64 2, .int .i64 1, .slice none 0 0, .slice (some ⟨g, 0, none⟩) 1 cap, .slice none 0 0, .slice none 0 0, .slice none 0 0] 28)).cell? ⟨w.heap.size, 3, none⟩ = some (.slice none 0 0) := by rw [Lib.cell_of_heap b4]; rfl
  have z3 : (w3.alloc (.cells #[.int .i64 2, .int .i64 1, .slice none 0 0, .slice (some ⟨g, 0, none⟩) 1 cap, .slice none 0 0, .slice none 0 0, .slice none 0 0] 28)).frozen? ⟨w.heap.size, 3, none⟩ = false := Lib.frozen_of_heap b4 3
  have c4 : (w3.alloc (.cells #[.int .i64 2, .int .i64 1, .slice none 0 0, .slice (some ⟨g, 0, none⟩) 1 cap, .slice none 0 0, .slice none 0 0, .slice none 0 0] 28)).cell? ⟨w.heap.size, 4, none⟩ = some (.slice none 0 0) := by rw [Lib.cell_of_heap b4]; rfl
  have z4 : (w3.alloc (.cells #[.int .i64 2, .int .i64 1, .slice none 0 0, .slice (some ⟨g, 0, none⟩) 1 cap, .slice none 0 0, .slice none 0 0, .slice none 0 0] 28)).frozen? ⟨w.heap.size, 4, none⟩ = false := Lib.frozen_of_heap b4 4
  have c5 : (w3.alloc (.cells #[.int .i64 2, .int .i64 1, .slice none 0 0, .slice (some ⟨g, 0, none⟩) 1 cap, .slice none 0 0, .slice none 0 0, .slice none 0 0] 28)).cell? ⟨w.heap.size, 5, none⟩ = some (.slice none 0 0) := by rw [Lib.cell_of_heap b4]; rfl
  have z5 : (w3.alloc (.cells #[.int .i64 2, .int .i64 1, .slice none 0 0, .slice (some ⟨g, 0, none⟩) 1 cap, .slice none 0 0, .slice none 0 0, .slice none 0 0] 28)).frozen? ⟨w.heap.size, 5, none⟩ = false := Lib.frozen_of_heap b4 5
  have c6 : (w3.alloc (.cells #[.int .i64 2, .int .i64 1, .slice none 0 0, .slice (some ⟨g, 0, none⟩) 1 cap, .slice none 0 0, .slice none 0 0, .slice none 0 0] 28)).cell? ⟨w.heap.size, 6, none⟩ = some (.slice none 0 0) := by rw [Lib.cell_of_heap b4]; rfl
  have z6 : (w3.alloc (.cells #[.int .i64 2, .int .i64 1, .slice none 0 0, .slice (some ⟨g, 0, none⟩) 1 cap, .slice none 0 0, .slice none 0 0, .slice none 0 0] 28)).frozen? ⟨w.heap.size, 6, none⟩ = false := Lib.frozen_of_heap b4 6
  have ce : (w3.alloc (.cells #[.int .i64 2, .int .i64 1, .slice none 0 0, .slice (some ⟨g, 0, none⟩) 1 cap, .slice none 0 0, .slice none 0 0, .slice none 0 0] 28)).cell? ⟨w.heap.size + 1, 0, none⟩ = some (.int .i64 0) := by rw [Lib.cell_of_heap e4]; rfl
  have ze : (w3.alloc (.cells #[.int .i64 2, .int .i64 1, .slice none 0 0, .slice (some ⟨g, 0, none⟩) 1 cap, .slice none 0 0, .slice none 0 0, .slice none 0 0] 28)).frozen? ⟨w.heap.size + 1, 0, none⟩ = false := Lib.frozen_of_heap e4 0
  have d0 : (w3.alloc (.cells #[.int .i64 2, .int .i64 1, .slice none 0 0, .slice (some ⟨g, 0, none⟩) 1 cap, .slice none 0 0, .slice none 0 0, .slice none 0 0] 28)).cell? ⟨w3.heap.size, 0, none⟩ = some (.int .i64 2) := by rw [Lib.cell_of_heap n4]; rfl
  have d1 : (w3.alloc (.cells #[.int .i64 2, .int .i64 1, .slice none 0 0, .slice (some ⟨g, 0, none⟩) 1 cap, .slice none 0 0, .slice none 0 0, .slice none 0 0] 28)).cell? ⟨w3.heap.size, 1, none⟩ = some (.int .i64 1) := by rw [Lib.cell_of_heap n4]; rfl
  have d2 : (w3.alloc (.cells #[.int .i64 2, .int .i64 1, .slice none 0 0, .slice (some ⟨g, 0, none⟩) 1 cap, .slice none 0 0, .slice none 0 0, .slice none 0 0] 28)).cell? ⟨w3.heap.size, 2, none⟩ = some (.slice none 0 0) := by rw [Lib.cell_of_heap n4]; rfl
  have d3 : (w3.alloc (.cells #[.int .i64 2, .int .i64 1, .slice none 0 0, .slice (some ⟨g, 0, none⟩) 1 cap, .slice none 0 0, .slice none 0 0, .slice none 0 0] 28)).cell? ⟨w3.heap.size, 3, none⟩ = some (.slice (some ⟨g, 0, none⟩) 1 cap) := by rw [Lib.cell_of_heap n4]; rfl
  have d4 : (w3.alloc (.cells #[.int .i64 2, .int .i64 1, .slice none 0 0, .slice (some ⟨g, 0, none⟩) 1 cap, .slice none 0 0, .slice none 0 0, .slice none 0 0] 28)).cell? ⟨w3.heap.size, 4, none⟩ = some (.slice none 0 0) := by rw [Lib.cell_of_heap n4]; rfl
  have d5 : (w3.alloc (.cells #[.int .i64 2, .int .i64 1, .slice none 0 0, .slice (some ⟨g, 0, none⟩) 1 cap, .slice none 0 0, .slice none 0 0, .slice none 0 0] 28)).cell? ⟨w3.heap.size, 5, none⟩ = some (.slice none 0 0) := by rw [Lib.cell_of_heap n4]; rfl
  have d6 : (w3.alloc (.cells #[.int .i64 2, .int .i64 1, .slice none 0 0, .slice (some ⟨g, 0, none⟩) 1 cap, .slice none 0 0, .slice none 0 0, .slice none 0 0] 28)).cell? ⟨w3.heap.size, 6, none⟩ = some (.slice none 0 0) := by rw [Lib.cell_of_heap n4]; rfl
  go_wp2_with fail
  have hcg : (w3.alloc (.cells #[.int .i64 2, .int .i64 1, .slice none 0 0, .slice (some ⟨g, 0, none⟩) 1 cap, .slice none 0 0, .slice none 0 0, .slice none 0 0] 28)).cell? ⟨g, 2, none⟩ = some (.int .i64 3) := (F4.cell (i := 2) hg2 (by simp)).trans hg3
  have hcl : (w3.alloc (.cells #[.int .i64 2, .int .i64 1, .slice none 0 0, .slice (some ⟨g, 0, none⟩) 1 cap, .slice none 0 0, .slice none 0 0, .slice none 0 0] 28)).heap.size = w3.heap.size + 1 := l4
  have hall := (hbF.mono (m := [w.heap.size + 1 + 1]) (by simp)).trans (hf3.trans (F4.mono (by simp)))
  clear d0 d1 d2 d3 d4 d5 d6 c0 c1 c2 c3 c4 c5 c6 z0 z1 z2 z3 z4 z5 z6 ce ze n4 F4
  generalize w3.alloc (.cells #[.int .i64 2, .int .i64 1, .slice none 0 0, .slice (some ⟨g, 0, none⟩) 1 cap, .slice none 0 0, .slice none 0 0, .slice none 0 0] 28) = W4 at *
  have hne : w.heap.size + 1 ≠ w.heap.size := by omega
  have hgF : ((((((((W4.setCell ⟨w.heap.size, 0, none⟩ (.int .i64 2)).setCell ⟨w.heap.size, 1, none⟩ (.int .i64 1)).setCell ⟨w.heap.size, 2, none⟩ (.slice none 0 0)).setCell ⟨w.heap.size, 3, none⟩ (.slice (some ⟨g, 0, none⟩) 1 cap)).setCell ⟨w.heap.size, 4, none⟩ (.slice none 0 0)).setCell ⟨w.heap.size, 5, none⟩ (.slice none 0 0)).setCell ⟨w.heap.size, 6, none⟩ (.slice none 0 0)).setCell ⟨w.heap.size + 1, 0, none⟩ (.int .i64 0)).heap[w.heap.size]? = some (.cells #[.int .i64 2, .int .i64 1, .slice none 0 0, .slice (some ⟨g, 0, none⟩) 1 cap, .slice none 0 0, .slice none 0 0, .slice none 0 0] 28 (0, 0)) := (Below.heap_setCell _ _ _ _ hne.symm).trans (heap_setN (heap_setN (heap_setN (heap_setN (heap_setN (heap_setN (heap_setN b4 0 _) 1 _) 2 _) 3 _) 4 _) 5 _) 6 _)
  have heF : ((((((((W4.setCell ⟨w.heap.size, 0, none⟩ (.int .i64 2)).setCell ⟨w.heap.size, 1, none⟩ (.int .i64 1)).setCell ⟨w.heap.size, 2, none⟩ (.slice none 0 0)).setCell ⟨w.heap.size, 3, none⟩ (.slice (some ⟨g, 0, none⟩) 1 cap)).setCell ⟨w.heap.size, 4, none⟩ (.slice none 0 0)).setCell ⟨w.heap.size, 5, none⟩ (.slice none 0 0)).setCell ⟨w.heap.size, 6, none⟩ (.slice none 0 0)).setCell ⟨w.heap.size + 1, 0, none⟩ (.int .i64 0)).heap[w.heap.size + 1]? = some (.cells #[.int .i64 0] 31 (0, 0)) := heap_setN ((Below.heap_setCell _ _ _ _ hne).trans ((Below.heap_setCell _ _ _ _ hne).trans ((Below.heap_setCell _ _ _ _ hne).trans ((Below.heap_setCell _ _ _ _ hne).trans ((Below.heap_setCell _ _ _ _ hne).trans ((Below.heap_setCell _ _ _ _ hne).trans ((Below.heap_setCell _ _ _ _ hne).trans e4))))))) 0 _
  have FF := ((((((((Fr.refl [w.heap.size, w.heap.size + 1] W4).setCell ⟨w.heap.size, 0, none⟩ (by simp) (.int .i64 2)).setCell ⟨w.heap.size, 1, none⟩ (by simp) (.int .i64 1)).setCell ⟨w.heap.size, 2, none⟩ (by simp) (.slice none 0 0)).setCell ⟨w.heap.size, 3, none⟩ (by simp) (.slice (some ⟨g, 0, none⟩) 1 cap)).setCell ⟨w.heap.size, 4, none⟩ (by simp) (.slice none 0 0)).setCell ⟨w.heap.size, 5, none⟩ (by simp) (.slice none 0 0)).setCell ⟨w.heap.size, 6, none⟩ (by simp) (.slice none 0 0)).setCell ⟨w.heap.size + 1, 0, none⟩ (by simp) (.int .i64 0)
  generalize ((((((((W4.setCell ⟨w.heap.size, 0, none⟩ (.int .i64 2)).setCell ⟨w.heap.size, 1, none⟩ (.int .i64 1)).setCell ⟨w.heap.size, 2, none⟩ (.slice none 0 0)).setCell ⟨w.heap.size, 3, none⟩ (.slice (some ⟨g, 0, none⟩) 1 cap)).setCell ⟨w.heap.size, 4, none⟩ (.slice none 0 0)).setCell ⟨w.heap.size, 5, none⟩ (.slice none 0 0)).setCell ⟨w.heap.size, 6, none⟩ (.slice none 0 0)).setCell ⟨w.heap.size + 1, 0, none⟩ (.int .i64 0)) = X at *
  have y0 : X.cell? ⟨w.heap.size, 0, none⟩ = some (.int .i64 2) := by rw [Lib.cell_of_heap hgF]; rfl
  have y1 : X.cell? ⟨w.heap.size, 1, none⟩ = some (.int .i64 1) := by rw [Lib.cell_of_heap hgF]; rfl
  have y2 : X.cell? ⟨w.heap.size, 2, none⟩ = some (.slice none 0 0) := by rw [Lib.cell_of_heap hgF]; rfl
  have y3 : X.cell? ⟨w.heap.size, 3, none⟩ = some (.slice (some ⟨g, 0, none⟩) 1 cap) := by rw [Lib.cell_of_heap hgF]; rfl
  have y4 : X.cell? ⟨w.heap.size, 4, none⟩ = some (.slice none 0 0) := by rw [Lib.cell_of_heap hgF]; rfl
  have y5 : X.cell? ⟨w.heap.size, 5, none⟩ = some (.slice none 0 0) := by rw [Lib.cell_of_heap hgF]; rfl
  have y6 : X.cell? ⟨w.heap.size, 6, none⟩ = some (.slice none 0 0) := by rw [Lib.cell_of_heap hgF]; rfl
  have ye : X.cell? ⟨w.heap.size + 1, 0, none⟩ = some (.int .i64 0) := by rw [Lib.cell_of_heap heF]; rfl
  have hgs : w.heap.size + 1 + 1 + 1 ≤ g := by rw [← hz3]; exact hg1
  have hcX : X.cell? ⟨g, 2, none⟩ = some (.int .i64 3) := (FF.cell (i := 2) (by rw [hcl]; omega) (by simp; omega)).trans hcg
  have hff := (hall.mono (m := [w.heap.size + 1 + 1, w.heap.size, w.heap.size + 1]) (by simp)).trans (FF.mono (by simp))
  have hbel : Below w.heap.size w X := hff.below (Nat.le_refl _) (by simp; omega)
  have hgX : g < X.heap.size := by have := FF.size; rw [hcl] at this; omega
  have HQ : AwPart w.heap.size (.agg #[.int .i64 2, .int .i64 1, .slice none 0 0, .slice (some ⟨g, 0, none⟩) 1 cap, .slice none 0 0, .slice none 0 0, .slice none 0 0]) X := ⟨g, cap, rfl, by omega, hgX, hcX⟩
  have HQ := Lib.hid HQ
  refine leaves_cons (f := 17) (args := #[.pointer (some ⟨w.heap.size + 1, 0, none⟩)]) (by simp) (by simp [go_sem]) ?_
  refine (caught_idle ⟨w.heap.size + 1, 0, none⟩ _).mono ?_
  rintro e u' w'' ⟨rfl, rfl, rfl⟩
  simp [Leaves, settle, results, Tryz.results10, go_sem, y0, y1, y2, y3, y4, y5, y6, ye]
  exact ⟨HQ.out, hbel⟩
end Go.Proofs.YtnaamiecljinnaaGreat
