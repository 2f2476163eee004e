/-
  La3 in one text.
-/
import Derived.Below
import Derived.Deep.QuietTactic
import Derived.KernelRfl
import Derived.Lib.Builder
import Derived.Lib.Hide
import Derived.OneCell
import Derived.OwnWalk
import Derived.ProofKit
import Derived.Tactics
import Derived.Test.YtkbcdlabfbonoaaGreatDoorChecked
import Derived.Test.YtkbcdlabfbonoaaGreatDoorS13
namespace Go.Proofs.YtkbcdlabfbonoaaGreatDoor
open Go.RowKit
/-- a lattice's block: how many labels, the rows above, the rows below -/
def LatAt (b n : Nat) (U D : Nat → Nat → Bool) (w : World) : Prop := ∃ cs : Array Value, w.heap[b]? = some (.cells cs 70 (0, 0)) ∧ cs.size = 145 ∧ n ≤ 8 ∧ cs[0]? = some (.int .i64 (n : Int)) ∧
  (∀ a, a < 8 → cs[1 + a]? = some (.int .u8 ((bits (U a) : Nat) : Int))) ∧ (∀ a, a < 8 → cs[9 + a]? = some (.int .u8 ((bits (D a) : Nat) : Int))) ∧ ∀ j, 17 ≤ j → j < 145 → ∃ k : Int, cs[j]? = some (.int .i8 k)
theorem wrap_u8 {m : Nat} (h : m < 256) : IntKind.u8.wrap ((m : Nat) : Int) = (m : Int) := by
  unfold IntKind.wrap
  simp only [IntKind.bits, IntKind.signed]
  simp
  omega
theorem u8_shr (f : Nat → Bool) {k : Nat} (hk : k < 8) (yk : IntKind) : Op.shift .shr .u8 ((bits f : Nat) : Int) yk (k : Int) = pure (.int .u8 (((bits f : Nat) : Int) >>> k)) := by
  have h := shift_shr .u8 yk ((bits f : Nat) : Int) (k : Int) (by omega) (by show (k : Int) ≤ 8; omega)
  rw [h, Int.shiftRight_eq_div_pow, Int.toNat_natCast]
  norm_cast
theorem u8_shl {k : Nat} (hk : k < 8) (yk : IntKind) : Op.shift .shl .u8 1 yk (k : Int) = pure (.int .u8 ((bits (fun y => Nat.beq y k) : Nat) : Int)) := by
  rw [← bits_one hk]
  match k, hk with
  | 0, _ => rfl
  | 1, _ => rfl
  | 2, _ => rfl
  | 3, _ => rfl
  | 4, _ => rfl
  | 5, _ => rfl
  | 6, _ => rfl
  | 7, _ => rfl
theorem u8_and {m n : Nat} (hm : m < 256) (hn : n < 256) : Go.bits .and .u8 ((m : Nat) : Int) ((n : Nat) : Int) = ((m &&& n : Nat) : Int) := by
  have h : (BitVec.ofInt 8 ((m : Nat) : Int) &&& BitVec.ofInt 8 ((n : Nat) : Int)).toNat = m &&& n := by
    simp [BitVec.toNat_and, Nat.mod_eq_of_lt hm, Nat.mod_eq_of_lt hn]
  show IntKind.u8.wrap (((BitVec.ofInt 8 ((m : Nat) : Int) &&& BitVec.ofInt 8 ((n : Nat) : Int)).toNat : Nat) : Int) = _
  rw [h, wrap_u8 (Nat.lt_of_le_of_lt Nat.and_le_left hm)]
theorem u8_or (f g : Nat → Bool) : Go.bits .or .u8 ((bits f : Nat) : Int) ((bits g : Nat) : Int) = ((bits (fun y => f y || g y) : Nat) : Int) := by
  have h : (BitVec.ofInt 8 ((bits f : Nat) : Int) ||| BitVec.ofInt 8 ((bits g : Nat) : Int)).toNat = bits f ||| bits g := by
    simp [BitVec.toNat_or, Nat.mod_eq_of_lt (bits_lt f), Nat.mod_eq_of_lt (bits_lt g)]
  show IntKind.u8.wrap (((BitVec.ofInt 8 ((bits f : Nat) : Int) ||| BitVec.ofInt 8 ((bits g : Nat) : Int)).toNat : Nat) : Int) = _
  rw [h, bits_or, wrap_u8 (bits_lt _)]
theorem u8_bit (f : Nat → Bool) {k : Nat} (hk : k < 8) : Go.bits .and .u8 (((bits f : Nat) : Int) >>> k) 1 = (((f k).toNat : Nat) : Int) := by
  have h : bits f >>> k < 256 := Nat.lt_of_le_of_lt (Nat.shiftRight_le _ _) (bits_lt f)
  have := u8_and h (show 1 < 256 by decide)
  rw [bits_shr f hk] at this
  exact this
theorem lret {a b : Value} (h : a = b) : Ending.returned a = .returned b := by rw [h]
theorem neq_nilL (w : World) (b : Nat) : (binOp .neq 26 (.pointer (some ⟨b, 0, none⟩)) (.pointer none)).run Tryz.prog w = .ok (.bool true) w := by kernel_rfl
set_option maxRecDepth 100000 in
theorem lis_any (b n : Nat) (U D : Nat → Nat → Bool) (a : Int) (w : World) (h : LatAt b n U D w) : Calls Tryz.prog 26 #[.pointer (some ⟨b, 0, none⟩), .int .i64 a] w fun e w' => e = .returned (.bool (decide (0 ≤ a) && decide (a < (n : Int)))) ∧ w = w' := by
  obtain ⟨cs, h0, hs, hn, h1, h2, h3, h4⟩ := h
  have hne := neq_nilL
  have c0 : w.cell? ⟨b, 0, none⟩ = some (.int .i64 (n : Int)) := by rw [Lib.cell_of_heap h0]; exact h1
  by_cases ha : 0 ≤ a
  · have t1 : decide (a ≥ 0) = true := by simpa using ha
    have t2 : decide (0 ≤ a) = true := by simpa using ha
    go_enter Tryz.func26, Tryz.ntmps26
    go_wp2_with fail
    go_ret
    exact ⟨lret (by simp [t2]), rfl⟩
  · have t1 : decide (a ≥ 0) = false := by simpa using ha
    go_enter Tryz.func26, Tryz.ntmps26
    go_wp2_with fail
    go_ret
    exact ⟨lret (by simp), rfl⟩
set_option maxRecDepth 100000 in
theorem lis_nil (a : Int) (w : World) : Calls Tryz.prog 26 #[.pointer none, .int .i64 a] w fun e w' => e = .returned (.bool false) ∧ w = w' := by
  have hne : ∀ w : World, (binOp .neq 26 (.pointer none) (.pointer none)).run Tryz.prog w = .ok (.bool false) w := fun w => by kernel_rfl
  go_enter Tryz.func26, Tryz.ntmps26
  go_wp2_with fail
  go_ret
  exact ⟨rfl, rfl⟩
set_option maxRecDepth 100000 in
theorem lLeq_nil (x y : Int) (w : World) : Calls Tryz.prog 11 #[.pointer none, .int .i64 x, .int .i64 y] w fun e w' => e = .returned (.bool false) ∧ w = w' := by
  have HI := Lib.hid lis_nil
  go_enter Tryz.func11, Tryz.ntmps11
  go_wp2_with fail
  refine (HI.out _ _).mono ?_; rintro e w1 ⟨rfl, rfl⟩
  go_wp2_with fail
  go_ret
  exact ⟨rfl, rfl⟩
/-- is it at or below -/
def leqB (n : Nat) (U : Nat → Nat → Bool) (x y : Int) : Bool := decide (0 ≤ x) && decide (x < (n : Int)) && (decide (0 ≤ y) && decide (y < (n : Int))) && U x.toNat y.toNat
set_option maxRecDepth 100000 in
theorem lLeq_any (b n : Nat) (U D : Nat → Nat → Bool) (x y : Int) (w : World) (h : LatAt b n U D w) : Calls Tryz.prog 11 #[.pointer (some ⟨b, 0, none⟩), .int .i64 x, .int .i64 y] w fun e w' => e = .returned (.bool (leqB n U x y)) ∧ w = w' := by
  have HI := Lib.hid (fun a => lis_any b n U D a w h)
  obtain ⟨cs, h0, hs, hn, h1, h2, h3, h4⟩ := h
  unfold leqB
  cases tx : (decide (0 ≤ x) && decide (x < (n : Int))) with
  | false =>
    go_enter Tryz.func11, Tryz.ntmps11
    go_wp2_with fail
    refine (HI.out _).mono ?_; rintro e w1 ⟨rfl, rfl⟩
    rw [tx]
    go_wp2_with fail
    go_ret
    exact ⟨rfl, rfl⟩
  | true =>
    simp only [Bool.and_eq_true, decide_eq_true_eq] at tx
    obtain ⟨a, rfl⟩ := Int.eq_ofNat_of_zero_le tx.1
    have hx : (decide (0 ≤ (a : Int)) && decide ((a : Int) < (n : Int))) = true := by simp; omega
    cases ty : (decide (0 ≤ y) && decide (y < (n : Int))) with
    | false =>
      go_enter Tryz.func11, Tryz.ntmps11
      go_wp2_with fail
      refine (HI.out _).mono ?_; rintro e w1 ⟨rfl, rfl⟩
      rw [hx]
      go_wp2_with fail
      refine (HI.out _).mono ?_; rintro e w1 ⟨rfl, rfl⟩
      rw [ty]
      go_wp2_with fail
      go_ret
      exact ⟨rfl, rfl⟩
    | true =>
      simp only [Bool.and_eq_true, decide_eq_true_eq] at ty
      obtain ⟨c, rfl⟩ := Int.eq_ofNat_of_zero_le ty.1
      have hy : (decide (0 ≤ (c : Int)) && decide ((c : Int) < (n : Int))) = true := by simp; omega
      have ha : a < 8 := by omega
      have hc : c < 8 := by omega
      have b1 := u8_shr (U a) hc .i64
      have b2 := u8_bit (U a) hc
      have c0 : w.cell? ⟨b, 1 + a, none⟩ = some (.int .u8 ((bits (U a) : Nat) : Int)) := by rw [Lib.cell_of_heap h0]; exact h2 a ha
      go_enter Tryz.func11, Tryz.ntmps11
      go_wp2_with fail
      refine (HI.out _).mono ?_; rintro e w1 ⟨rfl, rfl⟩
      rw [hx]
      go_wp2_with fail
      refine (HI.out _).mono ?_; rintro e w1 ⟨rfl, rfl⟩
      rw [hy]
      go_wp2_with fail
      go_ret
      exact ⟨lret (by cases hU : U a c <;> simp [hU]), rfl⟩
end Go.Proofs.YtkbcdlabfbonoaaGreatDoor
