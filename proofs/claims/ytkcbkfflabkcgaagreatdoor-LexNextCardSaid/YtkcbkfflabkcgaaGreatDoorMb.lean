/-
  The walk of the law LexNext.
-/
import Derived.Test.YtkcbkfflabkcgaaGreatDoorMa
namespace Go.Proofs.YtkcbkfflabkcgaaGreatDoor
open Go.RowKit

theorem next_same (l : List UInt8) (i : Int) : (rnextS l i).1 = (nextS l i).1 ∧ (rnextS l i).2.2 = (nextS l i).2 := by
  unfold rnextS nextS
  split
  · exact ⟨rfl, rfl⟩
  · split
    · rename_i h; exact ⟨rfl, h.symm⟩
    · exact ⟨rfl, rfl⟩

set_option maxRecDepth 100000 in
set_option maxHeartbeats 4000000 in
theorem lawLexNext (s : ByteArray) (i : Int) (_wi : (Lit.int .i64 i).wf = true) (w : World) (hE : Env w) :
    Calls Tryz.prog 3 #[.string s, .int .i64 i] w fun e w' => e = .returned (.bool true) ∧ Below w.heap.size w w' := by
  have hst := store_float
  have HA := Lib.hid (fun w hE => awake_any w hE)
  have HL := Lib.hid (fun w hE => next_any s i w hE)
  have HN := Lib.hid (fun w => rnext_any s i w)
  obtain ⟨g1, g2⟩ := next_same s.data.toList i
  generalize rnextS s.data.toList i = q at *
  generalize nextS s.data.toList i = r at *
  obtain ⟨k, e⟩ := r
  obtain ⟨k', wh, e'⟩ := q
  dsimp only at g1 g2
  subst g1 g2
  have HS := rsameTok_any k'
  rw [tokCells_mk] at HS
  have HS := Lib.hid HS
  by_cases hs : s.size ≤ 3000
  · have ht : decide ((3000 : Int) < (s.size : Int)) = false := by simp; omega
    have ht2 : ¬ 3000 < s.size := by omega
    clear hs
    go_enter Tryz.func3, Tryz.ntmps3
    go_wp2_with fail
    refine (HA.out _ hE).mono ?_; rintro e w1 ⟨rfl, h1⟩
    go_wp2_with fail
    refine (HL.out _ (hE.below h1)).mono ?_; rintro e w2 ⟨rfl, k2⟩
    have h2 := below_tr h1 k2
    dsimp only
    rw [tokCells_mk]
    go_upto_region 4 with (fail)
    have hK2 : TokAt w2.heap.size k' (w2.alloc (.cells #[.int .i64 k'.kind, .int .i64 k'.pos, .int .i64 k'.next, .int .i64 k'.num, .float .f64 k'.flt, .string ⟨k'.str.toArray⟩] 25)) := heap_alloc_new w2 _
    have h3 := h2.alloc h2.size (.cells #[.int .i64 k'.kind, .int .i64 k'.pos, .int .i64 k'.next, .int .i64 k'.num, .float .f64 k'.flt, .string ⟨k'.str.toArray⟩] 25)
    have hs3 : w.heap.size ≤ (w2.alloc (.cells #[.int .i64 k'.kind, .int .i64 k'.pos, .int .i64 k'.next, .int .i64 k'.num, .float .f64 k'.flt, .string ⟨k'.str.toArray⟩] 25)).heap.size := h3.size
    generalize w2.alloc (.cells #[.int .i64 k'.kind, .int .i64 k'.pos, .int .i64 k'.next, .int .i64 k'.num, .float .f64 k'.flt, .string ⟨k'.str.toArray⟩] 25) = W3 at *
    generalize w2.heap.size = T at *
    go_wp2_with fail
    refine (HN.out _).mono ?_; rintro e w4 ⟨rfl, k4⟩
    have h4 := below_tr h3 k4
    replace hK2 := hK2.belowP k4
    dsimp only
    rw [tokCells_mk]
    go_upto_region 5 with (fail)
    have hK5 : TokAt w4.heap.size k' (w4.alloc (.cells #[.int .i64 k'.kind, .int .i64 k'.pos, .int .i64 k'.next, .int .i64 k'.num, .float .f64 k'.flt, .string ⟨k'.str.toArray⟩] 25)) := heap_alloc_new w4 _
    have hK6 := hK2.kept ((Fr.refl [] w4).alloc (.cells #[.int .i64 k'.kind, .int .i64 k'.pos, .int .i64 k'.next, .int .i64 k'.num, .float .f64 k'.flt, .string ⟨k'.str.toArray⟩] 25)) (by simp)
    have h5 := h4.alloc h4.size (.cells #[.int .i64 k'.kind, .int .i64 k'.pos, .int .i64 k'.next, .int .i64 k'.num, .float .f64 k'.flt, .string ⟨k'.str.toArray⟩] 25)
    have hs5 : w.heap.size ≤ (w4.alloc (.cells #[.int .i64 k'.kind, .int .i64 k'.pos, .int .i64 k'.next, .int .i64 k'.num, .float .f64 k'.flt, .string ⟨k'.str.toArray⟩] 25)).heap.size := h5.size
    clear hK2
    generalize w4.alloc (.cells #[.int .i64 k'.kind, .int .i64 k'.pos, .int .i64 k'.next, .int .i64 k'.num, .float .f64 k'.flt, .string ⟨k'.str.toArray⟩] 25) = W5 at *
    generalize w4.heap.size = U at *
    have z0 : W5.cell? ⟨T, 0, none⟩ = some (.int .i64 k'.kind) := hK6.cell 0
    have y0 : W5.cell? ⟨U, 0, none⟩ = some (.int .i64 k'.kind) := hK5.cell 0
    have z1 : W5.cell? ⟨T, 1, none⟩ = some (.int .i64 k'.pos) := hK6.cell 1
    have y1 : W5.cell? ⟨U, 1, none⟩ = some (.int .i64 k'.pos) := hK5.cell 1
    have z2 : W5.cell? ⟨T, 2, none⟩ = some (.int .i64 k'.next) := hK6.cell 2
    have y2 : W5.cell? ⟨U, 2, none⟩ = some (.int .i64 k'.next) := hK5.cell 2
    have z3 : W5.cell? ⟨T, 3, none⟩ = some (.int .i64 k'.num) := hK6.cell 3
    have y3 : W5.cell? ⟨U, 3, none⟩ = some (.int .i64 k'.num) := hK5.cell 3
    have z4 : W5.cell? ⟨T, 4, none⟩ = some (.float .f64 k'.flt) := hK6.cell 4
    have y4 : W5.cell? ⟨U, 4, none⟩ = some (.float .f64 k'.flt) := hK5.cell 4
    have z5 : W5.cell? ⟨T, 5, none⟩ = some (.string ⟨k'.str.toArray⟩) := hK6.cell 5
    have y5 : W5.cell? ⟨U, 5, none⟩ = some (.string ⟨k'.str.toArray⟩) := hK5.cell 5
    go_wp2_with fail
    refine (HS.out _).mono ?_; rintro e w6 ⟨rfl, k6⟩
    have h6 := below_tr h5 k6
    go_wp2_with fail
    go_ret
    exact ⟨rfl, h6⟩
  · have ht : decide ((3000 : Int) < (s.size : Int)) = true := by simp; omega
    clear hs
    go_enter Tryz.func3, Tryz.ntmps3
    go_wp2_with fail
    refine (HA.out _ hE).mono ?_; rintro e w1 ⟨rfl, h1⟩
    go_wp2_with fail
    refine (HA.out _ (hE.below h1)).mono ?_; rintro e w2 ⟨rfl, k2⟩
    have h2 := below_tr h1 k2
    go_wp2_with fail
    go_ret
    exact ⟨rfl, h2⟩
end Go.Proofs.YtkcbkfflabkcgaaGreatDoor
