/-
  The methods of a world that is none; the law ObserveNil.
-/
import Derived.Test.YtibjgkdnnoolbaaGreatDoorExz
import Derived.ProofKit
import Derived.Lib.Hide
namespace Go.Proofs.YtibjgkdnnoolbaaGreatDoor
open Go.RowKit

theorem nbelow {a b c : World} (h : Below a.heap.size a b) (k : Below b.heap.size b c) : Below a.heap.size a c := h.trans (k.mono h.size)
theorem one_alloc_b {w x : World} {a : Obj} (h : Below (w.alloc a).heap.size (w.alloc a) x) : Below w.heap.size w x := by
  have h2 := (Below.refl w.heap.size w).alloc (Nat.le_refl _) a
  exact h2.trans (h.mono h2.size)
theorem one_kept {w x : World} {C : Array Value} {T : TypeId} (h : Below (w.alloc (.cells C T)).heap.size (w.alloc (.cells C T)) x) : x.heap[w.heap.size]? = some (.cells C T (0, 0)) :=
  (h.block _ (by simp)).trans (by show (w.heap.push _)[w.heap.size]? = _; simp)
theorem cells18 {w : World} {g : Nat} {T : TypeId} {c0 c1 c2 c3 c4 c5 c6 c7 c8 c9 c10 c11 c12 c13 c14 c15 c16 c17 : Value} (h : w.heap[g]? = some (.cells #[c0, c1, c2, c3, c4, c5, c6, c7, c8, c9, c10, c11, c12, c13, c14, c15, c16, c17] T (0, 0))) : w.cell? ⟨g, 0, none⟩ = some c0 ∧ w.cell? ⟨g, 1, none⟩ = some c1 ∧ w.cell? ⟨g, 2, none⟩ = some c2 ∧ w.cell? ⟨g, 3, none⟩ = some c3 ∧ w.cell? ⟨g, 4, none⟩ = some c4 ∧ w.cell? ⟨g, 5, none⟩ = some c5 ∧ w.cell? ⟨g, 6, none⟩ = some c6 ∧ w.cell? ⟨g, 7, none⟩ = some c7 ∧ w.cell? ⟨g, 8, none⟩ = some c8 ∧ w.cell? ⟨g, 9, none⟩ = some c9 ∧ w.cell? ⟨g, 10, none⟩ = some c10 ∧ w.cell? ⟨g, 11, none⟩ = some c11 ∧ w.cell? ⟨g, 12, none⟩ = some c12 ∧ w.cell? ⟨g, 13, none⟩ = some c13 ∧ w.cell? ⟨g, 14, none⟩ = some c14 ∧ w.cell? ⟨g, 15, none⟩ = some c15 ∧ w.cell? ⟨g, 16, none⟩ = some c16 ∧ w.cell? ⟨g, 17, none⟩ = some c17 := by
  refine ⟨?_, ?_, ?_, ?_, ?_, ?_, ?_, ?_, ?_, ?_, ?_, ?_, ?_, ?_, ?_, ?_, ?_, ?_⟩ <;> simp [World.cell?, h]
theorem arr18 {cs : Array Value} (h : cs.size = 18) : ∃ c0 c1 c2 c3 c4 c5 c6 c7 c8 c9 c10 c11 c12 c13 c14 c15 c16 c17 : Value, cs = #[c0, c1, c2, c3, c4, c5, c6, c7, c8, c9, c10, c11, c12, c13, c14, c15, c16, c17] := by
  obtain ⟨l⟩ := cs
  match l, h with
  | [c0, c1, c2, c3, c4, c5, c6, c7, c8, c9, c10, c11, c12, c13, c14, c15, c16, c17], _ => exact ⟨_, _, _, _, _, _, _, _, _, _, _, _, _, _, _, _, _, _, rfl⟩
theorem nil_eqlW (w : World) : (binOp .eql 33 (.pointer none) (.pointer none)).run Tryz.prog w = .ok (.bool true) w := by kernel_rfl
theorem nil_eqlE (w : World) : (binOp .eql 45 (.pointer none) (.pointer none)).run Tryz.prog w = .ok (.bool true) w := by kernel_rfl
set_option maxRecDepth 100000 in
theorem nFix (w : World) : Calls Tryz.prog 4 #[.pointer none, .slice none 0 0] w (Gave (.tuple #[]) w) := by
  have hn := nil_eqlW
  go_enter Tryz.func4, Tryz.ntmps4
  go_wp2_with fail
  go_end0
  exact ⟨rfl, by first | exact Below.refl _ _ | exact (Below.refl _ _).alloc (Nat.le_refl _) _⟩
set_option maxRecDepth 100000 in
theorem nDo (c : Array Value) (w : World) : Calls Tryz.prog 5 #[.pointer none, .agg c] w (Gave (.tuple #[]) w) := by
  have hn := nil_eqlW
  go_enter Tryz.func5, Tryz.ntmps5
  go_wp2_with fail
  go_end0
  exact ⟨rfl, by first | exact Below.refl _ _ | exact (Below.refl _ _).alloc (Nat.le_refl _) _⟩
set_option maxRecDepth 100000 in
theorem nView (a : Int) (w : World) : Calls Tryz.prog 7 #[.pointer none, .int .i64 a] w (Gave (.slice none 0 0) w) := by
  have hn := nil_eqlW
  go_enter Tryz.func7, Tryz.ntmps7
  go_wp2_with fail
  go_ret
  exact ⟨rfl, by first | exact Below.refl _ _ | exact (Below.refl _ _).alloc (Nat.le_refl _) _⟩
set_option maxRecDepth 100000 in
theorem nLog (w : World) : Calls Tryz.prog 8 #[.pointer none] w (Gave (.slice none 0 0) w) := by
  have hn := nil_eqlW
  go_enter Tryz.func8, Tryz.ntmps8
  go_wp2_with fail
  go_ret
  exact ⟨rfl, by first | exact Below.refl _ _ | exact (Below.refl _ _).alloc (Nat.le_refl _) _⟩
set_option maxRecDepth 100000 in
theorem nLabel (c : Array Value) (w : World) : Calls Tryz.prog 9 #[.pointer none, .agg c] w (Gave (.int .i64 0) w) := by
  have hn := nil_eqlW
  go_enter Tryz.func9, Tryz.ntmps9
  go_wp2_with fail
  go_ret
  exact ⟨rfl, by first | exact Below.refl _ _ | exact (Below.refl _ _).alloc (Nat.le_refl _) _⟩
set_option maxRecDepth 100000 in
theorem nAcked (w : World) : Calls Tryz.prog 10 #[.pointer none] w (Gave (.int .i64 0) w) := by
  have hn := nil_eqlW
  go_enter Tryz.func10, Tryz.ntmps10
  go_wp2_with fail
  go_ret
  exact ⟨rfl, by first | exact Below.refl _ _ | exact (Below.refl _ _).alloc (Nat.le_refl _) _⟩
set_option maxRecDepth 100000 in
theorem nRecords (w : World) : Calls Tryz.prog 11 #[.pointer none] w (Gave (.slice none 0 0) w) := by
  have hn := nil_eqlW
  go_enter Tryz.func11, Tryz.ntmps11
  go_wp2_with fail
  go_ret
  exact ⟨rfl, by first | exact Below.refl _ _ | exact (Below.refl _ _).alloc (Nat.le_refl _) _⟩
set_option maxRecDepth 100000 in
theorem nEngine (w : World) : Calls Tryz.prog 12 #[.pointer none] w (Gave (.pointer none) w) := by
  have hn := nil_eqlW
  go_enter Tryz.func12, Tryz.ntmps12
  go_wp2_with fail
  go_ret
  exact ⟨rfl, by first | exact Below.refl _ _ | exact (Below.refl _ _).alloc (Nat.le_refl _) _⟩
set_option maxRecDepth 100000 in
theorem nCopy (w : World) : Calls Tryz.prog 13 #[.pointer none] w (Gave (.pointer none) w) := by
  have hn := nil_eqlW
  go_enter Tryz.func13, Tryz.ntmps13
  go_wp2_with fail
  go_ret
  exact ⟨rfl, by first | exact Below.refl _ _ | exact (Below.refl _ _).alloc (Nat.le_refl _) _⟩
set_option maxRecDepth 100000 in
set_option maxHeartbeats 4000000 in
theorem observeNil_any (c0 c1 c2 c3 c4 c5 c6 c7 c8 c9 c10 c11 c12 c13 c14 c15 c16 c17 : Value) (a : Int) (_ : -9223372036854775808 ≤ a ∧ a ≤ 9223372036854775807) (w : World) : Calls Tryz.prog 3 #[.agg #[c0, c1, c2, c3, c4, c5, c6, c7, c8, c9, c10, c11, c12, c13, c14, c15, c16, c17], .int .i64 a] w (Gave (.bool true) w) := by
  have H0 := Lib.hid nFix
  have HA := Lib.hid awake24
  have H1 := Lib.hid nDo
  have H2 := Lib.hid nView
  have H3 := Lib.hid nLog
  have H4 := Lib.hid nLabel
  have H5 := Lib.hid nAcked
  have H6 := Lib.hid nRecords
  have H7 := Lib.hid nEngine
  have H8 := Lib.hid nCopy
  have hn := nil_eqlW
  have hn' := nil_eqlE
  go_enter Tryz.func3, Tryz.ntmps3
  go_wp2_with fail
  refine (H0.out _).mono ?_; rintro e w0 ⟨rfl, b0⟩
  replace b0 : Below (w.alloc (.cells #[c0, c1, c2, c3, c4, c5, c6, c7, c8, c9, c10, c11, c12, c13, c14, c15, c16, c17] 32)).heap.size (w.alloc (.cells #[c0, c1, c2, c3, c4, c5, c6, c7, c8, c9, c10, c11, c12, c13, c14, c15, c16, c17] 32)) w0 := b0
  obtain ⟨k1_0, k1_1, k1_2, k1_3, k1_4, k1_5, k1_6, k1_7, k1_8, k1_9, k1_10, k1_11, k1_12, k1_13, k1_14, k1_15, k1_16, k1_17⟩ := cells18 (one_kept (w := w) (C := #[c0, c1, c2, c3, c4, c5, c6, c7, c8, c9, c10, c11, c12, c13, c14, c15, c16, c17]) (T := 32) b0)
  go_wp2_with fail
  refine (H1.out _ _).mono ?_; rintro e w1 ⟨rfl, b1⟩
  have b1 := nbelow b0 b1
  clear b0 k1_0 k1_1 k1_2 k1_3 k1_4 k1_5 k1_6 k1_7 k1_8 k1_9 k1_10 k1_11 k1_12 k1_13 k1_14 k1_15 k1_16 k1_17
  as_aux_lemma =>
    go_wp2_with fail
    refine (HA.out _).mono ?_; rintro e w2 ⟨rfl, b2⟩
    have b2 := nbelow b1 b2
    clear b1
    as_aux_lemma =>
      go_wp2_with fail
      refine (H2.out _ _).mono ?_; rintro e w3 ⟨rfl, b3⟩
      have b3 := nbelow b2 b3
      clear b2
      go_wp2_with fail
      refine (H3.out _).mono ?_; rintro e w4 ⟨rfl, b4⟩
      have b4 := nbelow b3 b4
      clear b3
      as_aux_lemma =>
        obtain ⟨k5_0, k5_1, k5_2, k5_3, k5_4, k5_5, k5_6, k5_7, k5_8, k5_9, k5_10, k5_11, k5_12, k5_13, k5_14, k5_15, k5_16, k5_17⟩ := cells18 (one_kept (w := w) (C := #[c0, c1, c2, c3, c4, c5, c6, c7, c8, c9, c10, c11, c12, c13, c14, c15, c16, c17]) (T := 32) b4)
        go_wp2_with fail
        refine (H4.out _ _).mono ?_; rintro e w5 ⟨rfl, b5⟩
        have b5 := nbelow b4 b5
        clear b4 k5_0 k5_1 k5_2 k5_3 k5_4 k5_5 k5_6 k5_7 k5_8 k5_9 k5_10 k5_11 k5_12 k5_13 k5_14 k5_15 k5_16 k5_17
        go_wp2_with fail
        refine (H5.out _).mono ?_; rintro e w6 ⟨rfl, b6⟩
        have b6 := nbelow b5 b6
        clear b5
        as_aux_lemma =>
          go_wp2_with fail
          refine (H6.out _).mono ?_; rintro e w7 ⟨rfl, b7⟩
          have b7 := nbelow b6 b7
          clear b6
          as_aux_lemma =>
            go_wp2_with fail
            refine (H7.out _).mono ?_; rintro e w8 ⟨rfl, b8⟩
            have b8 := nbelow b7 b8
            clear b7
            go_wp2_with fail
            refine (H8.out _).mono ?_; rintro e w9 ⟨rfl, b9⟩
            have b9 := nbelow b8 b9
            clear b8
            go_wp2_with fail
            go_ret
            exact ⟨rfl, one_alloc_b (w := w) (a := .cells #[c0, c1, c2, c3, c4, c5, c6, c7, c8, c9, c10, c11, c12, c13, c14, c15, c16, c17] 32) b9⟩
end Go.Proofs.YtibjgkdnnoolbaaGreatDoor
