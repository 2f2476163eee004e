/-
  The methods of an engine that is none; the law EngineNil.
-/
import Derived.Test.YtmfjcklmagpkbaaGreatDoorEvJ
import Derived.ProofKit
import Derived.Lib.Hide
namespace Go.Proofs.YtmfjcklmagpkbaaGreatDoor
open Go.RowKit

theorem nbelow {a b c : World} (h : Below a.heap.size a b) (k : Below b.heap.size b c) : Below a.heap.size a c := h.trans (k.mono h.size)
theorem two_alloc_b {w x : World} {a b : Obj} (h : Below ((w.alloc a).alloc b).heap.size ((w.alloc a).alloc b) x) : Below w.heap.size w x := by
  have h2 := (((Below.refl w.heap.size w).alloc (Nat.le_refl _) a).alloc (by simp) b)
  exact h2.trans (h.mono h2.size)
theorem two_kept {w x : World} {C R : Array Value} {T U : TypeId} (h : Below ((w.alloc (.cells C T)).alloc (.cells R U)).heap.size ((w.alloc (.cells C T)).alloc (.cells R U)) x) : x.heap[w.heap.size]? = some (.cells C T (0, 0)) ∧ x.heap[w.heap.size + 1]? = some (.cells R U (0, 0)) :=
  ⟨(h.block _ (by simp; omega)).trans (by show ((w.heap.push _).push _)[w.heap.size]? = _; simp [Array.getElem?_push]), (h.block _ (by simp)).trans (by show ((w.heap.push _).push _)[w.heap.size + 1]? = _; rw [show w.heap.size + 1 = (w.heap.push (.cells C T)).size by simp]; exact Array.getElem?_push_size)⟩
theorem cells17 {w : World} {g : Nat} {T : TypeId} {c0 c1 c2 c3 c4 c5 c6 c7 c8 c9 c10 c11 c12 c13 c14 c15 c16 : Value} (h : w.heap[g]? = some (.cells #[c0, c1, c2, c3, c4, c5, c6, c7, c8, c9, c10, c11, c12, c13, c14, c15, c16] T (0, 0))) : w.cell? ⟨g, 0, none⟩ = some c0 ∧ w.cell? ⟨g, 1, none⟩ = some c1 ∧ w.cell? ⟨g, 2, none⟩ = some c2 ∧ w.cell? ⟨g, 3, none⟩ = some c3 ∧ w.cell? ⟨g, 4, none⟩ = some c4 ∧ w.cell? ⟨g, 5, none⟩ = some c5 ∧ w.cell? ⟨g, 6, none⟩ = some c6 ∧ w.cell? ⟨g, 7, none⟩ = some c7 ∧ w.cell? ⟨g, 8, none⟩ = some c8 ∧ w.cell? ⟨g, 9, none⟩ = some c9 ∧ w.cell? ⟨g, 10, none⟩ = some c10 ∧ w.cell? ⟨g, 11, none⟩ = some c11 ∧ w.cell? ⟨g, 12, none⟩ = some c12 ∧ w.cell? ⟨g, 13, none⟩ = some c13 ∧ w.cell? ⟨g, 14, none⟩ = some c14 ∧ w.cell? ⟨g, 15, none⟩ = some c15 ∧ w.cell? ⟨g, 16, none⟩ = some c16 := by
  refine ⟨?_, ?_, ?_, ?_, ?_, ?_, ?_, ?_, ?_, ?_, ?_, ?_, ?_, ?_, ?_, ?_, ?_⟩ <;> simp [World.cell?, h]
theorem arr17 {cs : Array Value} (h : cs.size = 17) : ∃ c0 c1 c2 c3 c4 c5 c6 c7 c8 c9 c10 c11 c12 c13 c14 c15 c16 : Value, cs = #[c0, c1, c2, c3, c4, c5, c6, c7, c8, c9, c10, c11, c12, c13, c14, c15, c16] := by
  obtain ⟨l⟩ := cs
  match l, h with
  | [c0, c1, c2, c3, c4, c5, c6, c7, c8, c9, c10, c11, c12, c13, c14, c15, c16], _ => exact ⟨_, _, _, _, _, _, _, _, _, _, _, _, _, _, _, _, _, rfl⟩
theorem arr2 {cs : Array Value} (h : cs.size = 2) : ∃ c0 c1 : Value, cs = #[c0, c1] := by
  obtain ⟨l⟩ := cs
  match l, h with
  | [c0, c1], _ => exact ⟨_, _, rfl⟩
theorem cells2 {w : World} {g : Nat} {T : TypeId} {r0 r1 : Value} (h : w.heap[g]? = some (.cells #[r0, r1] T (0, 0))) : w.cell? ⟨g, 0, none⟩ = some r0 ∧ w.cell? ⟨g, 1, none⟩ = some r1 := by
  refine ⟨?_, ?_⟩ <;> simp [World.cell?, h]
theorem nil_eql (w : World) : (binOp .eql 31 (.pointer none) (.pointer none)).run Tryz.prog w = .ok (.bool true) w := by kernel_rfl
set_option maxRecDepth 100000 in
theorem nFix (w : World) : Calls Tryz.prog 6 #[.pointer none, .slice none 0 0] w (Gave (.tuple #[]) w) := by
  have hn := nil_eql
  go_enter Tryz.func6, Tryz.ntmps6
  go_wp2_with fail
  go_end0
  exact ⟨rfl, Below.refl _ _⟩
set_option maxRecDepth 100000 in
theorem nDo (c : Array Value) (w : World) : Calls Tryz.prog 8 #[.pointer none, .agg c] w (Gave (.slice none 0 0) w) := by
  have hn := nil_eql
  go_enter Tryz.func8, Tryz.ntmps8
  go_wp2_with fail
  go_ret
  exact ⟨rfl, by first | exact Below.refl _ _ | exact (Below.refl _ _).alloc (Nat.le_refl _) _⟩
set_option maxRecDepth 100000 in
theorem nLabel (c : Array Value) (w : World) : Calls Tryz.prog 9 #[.pointer none, .agg c] w (Gave (.int .i64 0) w) := by
  have hn := nil_eql
  go_enter Tryz.func9, Tryz.ntmps9
  go_wp2_with fail
  go_ret
  exact ⟨rfl, by first | exact Below.refl _ _ | exact (Below.refl _ _).alloc (Nat.le_refl _) _⟩
set_option maxRecDepth 100000 in
theorem nClock (w : World) : Calls Tryz.prog 10 #[.pointer none] w (Gave (.int .i64 0) w) := by
  have hn := nil_eql
  go_enter Tryz.func10, Tryz.ntmps10
  go_wp2_with fail
  go_ret
  exact ⟨rfl, by first | exact Below.refl _ _ | exact (Below.refl _ _).alloc (Nat.le_refl _) _⟩
set_option maxRecDepth 100000 in
theorem nInsts (w : World) : Calls Tryz.prog 11 #[.pointer none] w (Gave (.slice none 0 0) w) := by
  have hn := nil_eql
  go_enter Tryz.func11, Tryz.ntmps11
  go_wp2_with fail
  go_ret
  exact ⟨rfl, by first | exact Below.refl _ _ | exact (Below.refl _ _).alloc (Nat.le_refl _) _⟩
set_option maxRecDepth 100000 in
theorem nValues (c : Array Value) (w : World) : Calls Tryz.prog 12 #[.pointer none, .agg c] w (Gave (.slice none 0 0) w) := by
  have hn := nil_eql
  go_enter Tryz.func12, Tryz.ntmps12
  go_wp2_with fail
  go_ret
  exact ⟨rfl, by first | exact Below.refl _ _ | exact (Below.refl _ _).alloc (Nat.le_refl _) _⟩
set_option maxRecDepth 100000 in
theorem nTokens (a : Int) (w : World) : Calls Tryz.prog 13 #[.pointer none, .int .i64 a] w (Gave (.int .i64 0) w) := by
  have hn := nil_eql
  go_enter Tryz.func13, Tryz.ntmps13
  go_wp2_with fail
  go_ret
  exact ⟨rfl, by first | exact Below.refl _ _ | exact (Below.refl _ _).alloc (Nat.le_refl _) _⟩
set_option maxRecDepth 100000 in
theorem nReady (a : Int) (w : World) : Calls Tryz.prog 14 #[.pointer none, .int .i64 a] w (Gave (.int .i64 0) w) := by
  have hn := nil_eql
  go_enter Tryz.func14, Tryz.ntmps14
  go_wp2_with fail
  go_ret
  exact ⟨rfl, by first | exact Below.refl _ _ | exact (Below.refl _ _).alloc (Nat.le_refl _) _⟩
set_option maxRecDepth 100000 in
theorem nAudits (w : World) : Calls Tryz.prog 15 #[.pointer none] w (Gave (.slice none 0 0) w) := by
  have hn := nil_eql
  go_enter Tryz.func15, Tryz.ntmps15
  go_wp2_with fail
  go_ret
  exact ⟨rfl, by first | exact Below.refl _ _ | exact (Below.refl _ _).alloc (Nat.le_refl _) _⟩
set_option maxRecDepth 100000 in
theorem nCopy (w : World) : Calls Tryz.prog 16 #[.pointer none] w (Gave (.pointer none) w) := by
  have hn := nil_eql
  go_enter Tryz.func16, Tryz.ntmps16
  go_wp2_with fail
  go_ret
  exact ⟨rfl, by first | exact Below.refl _ _ | exact (Below.refl _ _).alloc (Nat.le_refl _) _⟩
set_option maxRecDepth 100000 in
set_option maxHeartbeats 4000000 in
theorem engineNil_any (c0 c1 c2 c3 c4 c5 c6 c7 c8 c9 c10 c11 c12 c13 c14 c15 c16 r0 r1 : Value) (a : Int) (_ : -9223372036854775808 ≤ a ∧ a ≤ 9223372036854775807) (w : World) : Calls Tryz.prog 3 #[.agg #[c0, c1, c2, c3, c4, c5, c6, c7, c8, c9, c10, c11, c12, c13, c14, c15, c16], .agg #[r0, r1], .int .i64 a] w (Gave (.bool true) w) := by
  have H0 := Lib.hid nFix
  have HA := Lib.hid awake22
  have H1 := Lib.hid nDo
  have H2 := Lib.hid nLabel
  have H3 := Lib.hid nClock
  have H4 := Lib.hid nInsts
  have H5 := Lib.hid nValues
  have H6 := Lib.hid nTokens
  have H7 := Lib.hid nReady
  have H8 := Lib.hid nAudits
  have H9 := Lib.hid nCopy
  have hn := nil_eql
  go_enter Tryz.func3, Tryz.ntmps3
  go_wp2_with fail
  refine (H0.out _).mono ?_; rintro e w0 ⟨rfl, b0⟩
  go_wp2_with fail
  refine (HA.out _).mono ?_; rintro e w1 ⟨rfl, b1⟩
  replace b0 : Below ((w.alloc (.cells #[c0, c1, c2, c3, c4, c5, c6, c7, c8, c9, c10, c11, c12, c13, c14, c15, c16] 30)).alloc (.cells #[r0, r1] 23)).heap.size ((w.alloc (.cells #[c0, c1, c2, c3, c4, c5, c6, c7, c8, c9, c10, c11, c12, c13, c14, c15, c16] 30)).alloc (.cells #[r0, r1] 23)) w0 := b0
  have b1 := nbelow b0 b1
  clear b0
  obtain ⟨k2_0, k2_1, k2_2, k2_3, k2_4, k2_5, k2_6, k2_7, k2_8, k2_9, k2_10, k2_11, k2_12, k2_13, k2_14, k2_15, k2_16⟩ := cells17 (two_kept (w := w) (C := #[c0, c1, c2, c3, c4, c5, c6, c7, c8, c9, c10, c11, c12, c13, c14, c15, c16]) (T := 30) (R := #[r0, r1]) (U := 23) b1).1
  go_wp2_with fail
  refine (H1.out _ _).mono ?_; rintro e w2 ⟨rfl, b2⟩
  have b2 := nbelow b1 b2
  clear b1 k2_0 k2_1 k2_2 k2_3 k2_4 k2_5 k2_6 k2_7 k2_8 k2_9 k2_10 k2_11 k2_12 k2_13 k2_14 k2_15 k2_16
  obtain ⟨k3_0, k3_1, k3_2, k3_3, k3_4, k3_5, k3_6, k3_7, k3_8, k3_9, k3_10, k3_11, k3_12, k3_13, k3_14, k3_15, k3_16⟩ := cells17 (two_kept (w := w) (C := #[c0, c1, c2, c3, c4, c5, c6, c7, c8, c9, c10, c11, c12, c13, c14, c15, c16]) (T := 30) (R := #[r0, r1]) (U := 23) b2).1
  go_wp2_with fail
  refine (H2.out _ _).mono ?_; rintro e w3 ⟨rfl, b3⟩
  have b3 := nbelow b2 b3
  clear b2 k3_0 k3_1 k3_2 k3_3 k3_4 k3_5 k3_6 k3_7 k3_8 k3_9 k3_10 k3_11 k3_12 k3_13 k3_14 k3_15 k3_16
  go_wp2_with fail
  refine (H3.out _).mono ?_; rintro e w4 ⟨rfl, b4⟩
  have b4 := nbelow b3 b4
  clear b3
  go_wp2_with fail
  refine (H4.out _).mono ?_; rintro e w5 ⟨rfl, b5⟩
  have b5 := nbelow b4 b5
  clear b4
  obtain ⟨q0, q1⟩ := cells2 (two_kept (w := w) (C := #[c0, c1, c2, c3, c4, c5, c6, c7, c8, c9, c10, c11, c12, c13, c14, c15, c16]) (T := 30) (R := #[r0, r1]) (U := 23) b5).2
  go_wp2_with fail
  refine (H5.out _ _).mono ?_; rintro e w6 ⟨rfl, b6⟩
  have b6 := nbelow b5 b6
  clear b5 q0 q1
  go_wp2_with fail
  refine (H6.out _ _).mono ?_; rintro e w7 ⟨rfl, b7⟩
  have b7 := nbelow b6 b7
  clear b6
  go_wp2_with fail
  refine (H7.out _ _).mono ?_; rintro e w8 ⟨rfl, b8⟩
  have b8 := nbelow b7 b8
  clear b7
  go_wp2_with fail
  refine (H8.out _).mono ?_; rintro e w9 ⟨rfl, b9⟩
  have b9 := nbelow b8 b9
  clear b8
  go_wp2_with fail
  refine (H9.out _).mono ?_; rintro e w10 ⟨rfl, b10⟩
  have b10 := nbelow b9 b10
  clear b9
  go_wp2_with fail
  go_ret
  exact ⟨rfl, two_alloc_b (w := w) (a := .cells #[c0, c1, c2, c3, c4, c5, c6, c7, c8, c9, c10, c11, c12, c13, c14, c15, c16] 30) (b := .cells #[r0, r1] 23) b10⟩
end Go.Proofs.YtmfjcklmagpkbaaGreatDoor
