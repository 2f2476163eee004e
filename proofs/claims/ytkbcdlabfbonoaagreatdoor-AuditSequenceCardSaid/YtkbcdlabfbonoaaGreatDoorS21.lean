/-
  Lb1 in one text.
-/
import Derived.Below
import Derived.BigFrame
import Derived.Deep.Cut
import Derived.Deep.DeepCutAuto
import Derived.Deep.MidRow
import Derived.Deep.QuietTactic
import Derived.Deep.RegionHeld3
import Derived.IntWalk
import Derived.KernelRfl
import Derived.Laws.Unary
import Derived.Lib.Builder
import Derived.Lib.Hide
import Derived.Lib.MinMax
import Derived.LoopTactic
import Derived.OneCell
import Derived.OwnWalk
import Derived.ProofKit
import Derived.RegionTactic
import Derived.Scope
import Derived.Tactics
import Derived.Test.YtkbcdlabfbonoaaGreatDoorChecked
import Derived.Test.YtkbcdlabfbonoaaGreatDoorEv3
import Derived.Test.YtkbcdlabfbonoaaGreatDoorS01
import Derived.Test.YtkbcdlabfbonoaaGreatDoorS06
import Derived.Test.YtkbcdlabfbonoaaGreatDoorS12
import Derived.Test.YtkbcdlabfbonoaaGreatDoorS14
namespace Go.Proofs.YtkbcdlabfbonoaaGreatDoor
open Go.RowKit
/-- a lattice's cells: how many labels, which is at or below which -/
def LeV (n : Nat) (le : Rel) (cs : Array Value) : Prop := cs.size = 65 ∧ n ≤ 8 ∧ cs[0]? = some (.int .i64 (n : Int)) ∧ ∀ a c, a < 8 → c < 8 → cs[1 + a * 8 + c]? = some (.bool (le a c))
theorem LeV.one {n : Nat} {le : Rel} {cs : Array Value} (h : LeV n le cs) : ∀ u ∈ cs.toList, u.oneCell' = true := by
  intro u hu
  obtain ⟨i, hi⟩ := List.getElem?_of_mem hu
  rw [Array.getElem?_toList] at hi
  have hlt : i < 65 := by rw [← h.1]; exact (Array.getElem?_eq_some_iff.1 hi).1
  cases i with
  | zero => rw [h.2.2.1] at hi; cases hi; rfl
  | succ k =>
    have := h.2.2.2 (k / 8) (k % 8) (by omega) (by omega)
    rw [show 1 + k / 8 * 8 + k % 8 = k + 1 by omega] at this
    rw [this] at hi; cases hi; rfl
theorem below_trL {a b c : World} (h : Below a.heap.size a b) (k : Below b.heap.size b c) : Below a.heap.size a c := h.trans (k.mono h.size)
def LeAt (b n : Nat) (le : Rel) (w : World) : Prop := ∃ cs, w.heap[b]? = some (.cells cs 33 (0, 0)) ∧ LeV n le cs
section
variable {b n : Nat} {le : Rel} {w w' : World}
theorem LeAt.lt (h : LeAt b n le w) : b < w.heap.size := by obtain ⟨_, h, _⟩ := h; exact lt_of_block h
theorem LeAt.cellN (h : LeAt b n le w) : w.cell? ⟨b, 0, none⟩ = some (.int .i64 (n : Int)) := by
  obtain ⟨cs, h0, _, _, h1, _⟩ := h
  rw [Lib.cell_of_heap h0]; exact h1
theorem LeAt.cell (h : LeAt b n le w) {a c : Nat} (ha : a < 8) (hc : c < 8) : w.cell? ⟨b, 1 + a * 8 + c, none⟩ = some (.bool (le a c)) := by
  obtain ⟨cs, h0, _, _, _, h1⟩ := h
  rw [Lib.cell_of_heap h0]; exact h1 a c ha hc
theorem LeAt.free (h : LeAt b n le w) (j : Nat) : w.frozen? ⟨b, j, none⟩ = false := by
  obtain ⟨cs, h0, _⟩ := h
  exact Lib.frozen_of_heap h0 j
theorem LeAt.of (h : LeAt b n le w) (k : w'.heap[b]? = w.heap[b]?) : LeAt b n le w' := by
  obtain ⟨cs, h0, hr⟩ := h
  exact ⟨cs, k.trans h0, hr⟩
theorem LeAt.below (h : LeAt b n le w) (hb : Below w.heap.size w w') : LeAt b n le w' := h.of (hb.block _ h.lt)
theorem LeAt.drew (h : LeAt b n le w) : LeAt b n le w.drew := h.of rfl
theorem LeAt.set (h : LeAt b n le w) {a c : Nat} (ha : a < 8) (hc : c < 8) {le' : Rel} (hle : ∀ x y, le' x y = if x = a ∧ y = c then true else le x y) : LeAt b n le' (w.setCell ⟨b, 1 + a * 8 + c, none⟩ (.bool true)) := by
  obtain ⟨cs, k0, k1, k2, k3, k4⟩ := h
  refine ⟨cs.setIfInBounds (1 + a * 8 + c) (.bool true), heap_setN k0 _ _, by simpa using k1, k2, ?_, fun x y hx hy => ?_⟩
  · rw [Array.getElem?_setIfInBounds_ne (by omega)]; exact k3
  · rw [hle]
    by_cases e : x = a ∧ y = c
    · obtain ⟨rfl, rfl⟩ := e
      rw [if_pos ⟨rfl, rfl⟩, Array.getElem?_setIfInBounds_self_of_lt (by omega)]
    · rw [if_neg e, Array.getElem?_setIfInBounds_ne (by omega)]; exact k4 x y hx hy
end
set_option maxRecDepth 100000 in
set_option maxHeartbeats 4000000 in
theorem rIs_any (n : Nat) (le : Rel) (cs : Array Value) (h : LeV n le cs) (a : Int) (w : World) : Calls Tryz.prog 39 #[.agg cs, .int .i64 a] w fun e w' => e = .returned (.bool (decide (0 ≤ a) && decide (a < (n : Int)))) ∧ Below w.heap.size w w' := by
  have h0 : LeAt w.heap.size n le (w.alloc (.cells cs 33)) := ⟨cs, heap_alloc_new w _, h⟩
  have f0 := (Below.refl w.heap.size w).alloc (Nat.le_refl _) (.cells cs 33)
  clear h
  by_cases ha : 0 ≤ a
  · have t1 : decide (a ≥ 0) = true := by simpa using ha
    have t2 : decide (0 ≤ a) = true := by simpa using ha
    go_enter Tryz.func39, Tryz.ntmps39
    go_upto_region 1 with (fail)
    generalize w.alloc (.cells cs 33) = W1 at *
    have c0 := h0.cellN
    clear h0
    go_wp2_with fail
    go_ret
    exact ⟨lret (by simp [t2]), f0⟩
  · have t1 : decide (a ≥ 0) = false := by simpa using ha
    go_enter Tryz.func39, Tryz.ntmps39
    go_upto_region 1 with (fail)
    generalize w.alloc (.cells cs 33) = W1 at *
    clear h0
    go_wp2_with fail
    go_ret
    exact ⟨lret (by simp), f0⟩
set_option maxRecDepth 100000 in
set_option maxHeartbeats 4000000 in
theorem rLeq_any (n : Nat) (le : Rel) (cs : Array Value) (h : LeV n le cs) (x y : Int) (w : World) : Calls Tryz.prog 25 #[.agg cs, .int .i64 x, .int .i64 y] w fun e w' => e = .returned (.bool (leqB n le x y)) ∧ Below w.heap.size w w' := by
  have HI := Lib.hid (fun a w => rIs_any n le cs h a w)
  have hn8 := h.2.1
  have hs := h.1
  have h0 : LeAt w.heap.size n le (w.alloc (.cells cs 33)) := ⟨cs, heap_alloc_new w _, h⟩
  have hg := heap_alloc_new w (.cells cs 33)
  have f0 := (Below.refl w.heap.size w).alloc (Nat.le_refl _) (.cells cs 33)
  generalize hW1 : w.alloc (.cells cs 33) = W1 at *
  have HW1 := Lib.hid hW1
  clear h hW1
  unfold leqB
  cases tx : (decide (0 ≤ x) && decide (x < (n : Int))) with
  | false =>
    go_enter Tryz.func25, Tryz.ntmps25
    go_upto_region 1 with (fail)
    rw [HW1.out]
    go_wp2_with (first | (refine wpList_loadG rfl rfl rfl (by kernel_rfl) (n := 65) (by kernel_rfl) hg hs ?_))
    refine (HI.out _ _).mono ?_; rintro e w1 ⟨rfl, b1⟩
    rw [tx]
    go_wp2_with fail
    go_ret
    exact ⟨rfl, below_trL f0 b1⟩
  | true =>
    simp only [Bool.and_eq_true, decide_eq_true_eq] at tx
    obtain ⟨a, rfl⟩ := Int.eq_ofNat_of_zero_le tx.1
    have hx : (decide (0 ≤ (a : Int)) && decide ((a : Int) < (n : Int))) = true := by simp; omega
    cases ty : (decide (0 ≤ y) && decide (y < (n : Int))) with
    | false =>
      go_enter Tryz.func25, Tryz.ntmps25
      go_upto_region 1 with (fail)
      rw [HW1.out]
      go_wp2_with (first | (refine wpList_loadG rfl rfl rfl (by kernel_rfl) (n := 65) (by kernel_rfl) hg hs ?_))
      refine (HI.out _ _).mono ?_; rintro e w1 ⟨rfl, b1⟩
      rw [hx]
      replace hg := (b1.block _ (lt_of_block hg)).trans hg
      have f1 := below_trL f0 b1
      go_wp2_with (first | (refine wpList_loadG rfl rfl rfl (by kernel_rfl) (n := 65) (by kernel_rfl) hg hs ?_))
      refine (HI.out _ _).mono ?_; rintro e w2 ⟨rfl, b2⟩
      rw [ty]
      go_wp2_with fail
      go_ret
      exact ⟨rfl, below_trL f1 b2⟩
    | true =>
      simp only [Bool.and_eq_true, decide_eq_true_eq] at ty
      obtain ⟨c, rfl⟩ := Int.eq_ofNat_of_zero_le ty.1
      have hy : (decide (0 ≤ (c : Int)) && decide ((c : Int) < (n : Int))) = true := by simp; omega
      have ha : a < 8 := by omega
      have hc : c < 8 := by omega
      have k1 : (a : Int) < 8 := by omega
      have k2 : (c : Int) < 8 := by omega
      go_enter Tryz.func25, Tryz.ntmps25
      go_upto_region 1 with (fail)
      rw [HW1.out]
      go_wp2_with (first | (refine wpList_loadG rfl rfl rfl (by kernel_rfl) (n := 65) (by kernel_rfl) hg hs ?_))
      refine (HI.out _ _).mono ?_; rintro e w1 ⟨rfl, b1⟩
      rw [hx]
      replace hg := (b1.block _ (lt_of_block hg)).trans hg
      replace h0 := h0.below b1
      have f1 := below_trL f0 b1
      go_wp2_with (first | (refine wpList_loadG rfl rfl rfl (by kernel_rfl) (n := 65) (by kernel_rfl) hg hs ?_))
      refine (HI.out _ _).mono ?_; rintro e w2 ⟨rfl, b2⟩
      rw [hy]
      have c0 := (h0.below b2).cell ha hc
      go_wp2_with fail
      go_ret
      exact ⟨lret (by cases hU : le a c <;> simp [hU]), below_trL f1 b2⟩
end Go.Proofs.YtkbcdlabfbonoaaGreatDoor
