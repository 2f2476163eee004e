/-
  The walk of the law FloatSmall.
-/
import Derived.Test.YtbcgecenfedjdaaDoorL1
import Derived.Test.YtbcgecenfedjdaaDoorFs
namespace Go.Proofs.YtbcgecenfedjdaaDoor
open Go.RowKit

theorem mul_bound {a b : Int} (ha : a.natAbs ≤ 2147483648) (hb : b.natAbs ≤ 2147483648) : (a * b).natAbs ≤ 4611686018427387904 := by
  rw [Int.natAbs_mul]
  calc a.natAbs * b.natAbs ≤ 2147483648 * 2147483648 := Nat.mul_le_mul ha hb
    _ = 4611686018427387904 := by decide

set_option maxRecDepth 100000 in
set_option maxHeartbeats 4000000 in
theorem lawFloatSmall (a : Int) (wa : (Lit.int .i32 a).wf = true) (b : Int) (wb : (Lit.int .i32 b).wf = true) (w : World) (hE : Env w) :
    Calls Tryd.prog 9 #[.int .i32 a, .int .i32 b] w fun e w' => e = .returned (.bool true) ∧ Below w.heap.size w w' := by
  have HA := Lib.hid (fun w hE => awake_any w hE)
  have ba : -2147483648 ≤ a ∧ a ≤ 2147483647 := by simpa [Lit.wf, IntKind.min, IntKind.max, IntKind.signed, IntKind.bits] using wa
  have bb : -2147483648 ≤ b ∧ b ≤ 2147483647 := by simpa [Lit.wf, IntKind.min, IntKind.max, IntKind.signed, IntKind.bits] using wb
  obtain ⟨a1, a2⟩ := ba
  obtain ⟨b1, b2⟩ := bb
  obtain ⟨s1, s2, s3, s4⟩ := sum_ints (a := a) (b := b) (by omega) (by omega)
  have hmb := mul_bound (a := a) (b := b) (by omega) (by omega)
  have H1 := Lib.hid (fromInt_any a)
  have H2 := Lib.hid (fromInt_any b)
  rw [fi_eq] at H1 H2
  have H3 := Lib.hid (fun w => below_of (add_any (fi a) (fi b) w))
  have H4 := Lib.hid (fun w => below_of (toInt_any (addB (fi a) (fi b)) (addB_F64 _ _) w))
  rw [s1, s2] at H4
  have H5 := Lib.hid (fun w => below_of (sub_any (fi a) (fi b) w))
  have H6 := Lib.hid (fun w => below_of (toInt_any (subB (fi a) (fi b)) (subB_F64 _ _) w))
  rw [s3, s4] at H6
  have H7 := Lib.hid (fun w => below_of (mul_any (fi a) (fi b) w))
  have h8 := fun w => below_of (toInt_any (mulB (fi a) (fi b)) (mulB_F64 _ _) w)
  have hm := @mul_ints a b (by omega) (by omega)
  have m1 : -4611686018427387904 ≤ a * b := by omega
  have m2 : a * b ≤ 4611686018427387904 := by omega
  clear s1 s2 s3 s4 hmb wa wb
  by_cases c1 : 9007199254740992 < a * b
  · have H8 := Lib.hid h8
    clear h8 hm
    go_enter Tryd.func9, Tryd.ntmps9
    go_wp2_with fail
    refine (H1.out _).mono ?_; rintro e w' ⟨rfl, rfl⟩
    go_wp2_with fail
    refine (H2.out _).mono ?_; rintro e w' ⟨rfl, rfl⟩
    go_wp2_with fail
    refine (H3.out _).mono ?_; rintro e w1 ⟨rfl, hw1⟩
    go_wp2_with fail
    refine (H4.out _).mono ?_; rintro e w2 ⟨rfl, hw2⟩
    have k2 := below_tr hw1 hw2
    go_wp2_with fail
    refine (H5.out _).mono ?_; rintro e w3 ⟨rfl, hw3⟩
    have k3 := below_tr k2 hw3
    go_wp2_with fail
    refine (H6.out _).mono ?_; rintro e w4 ⟨rfl, hw4⟩
    have k4 := below_tr k3 hw4
    clear hw1 hw2 hw3 hw4 k2 k3
    go_wp2_with fail
    refine (HA.out _ (hE.below k4)).mono ?_; rintro e w5 ⟨rfl, hw5⟩
    have k5 := below_tr k4 hw5
    go_wp2_with fail
    refine (H7.out _).mono ?_; rintro e w6 ⟨rfl, hw6⟩
    have k6 := below_tr k5 hw6
    go_wp2_with fail
    refine (H8.out _).mono ?_; rintro e w7 ⟨rfl, hw7⟩
    have k7 := below_tr k6 hw7
    go_wp2_with fail
    go_ret
    exact ⟨ret_val rfl, k7⟩
  · by_cases c2 : a * b < -9007199254740992
    · have H8 := Lib.hid h8
      clear h8 hm
      go_enter Tryd.func9, Tryd.ntmps9
      go_wp2_with fail
      refine (H1.out _).mono ?_; rintro e w' ⟨rfl, rfl⟩
      go_wp2_with fail
      refine (H2.out _).mono ?_; rintro e w' ⟨rfl, rfl⟩
      go_wp2_with fail
      refine (H3.out _).mono ?_; rintro e w1 ⟨rfl, hw1⟩
      go_wp2_with fail
      refine (H4.out _).mono ?_; rintro e w2 ⟨rfl, hw2⟩
      have k2 := below_tr hw1 hw2
      go_wp2_with fail
      refine (H5.out _).mono ?_; rintro e w3 ⟨rfl, hw3⟩
      have k3 := below_tr k2 hw3
      go_wp2_with fail
      refine (H6.out _).mono ?_; rintro e w4 ⟨rfl, hw4⟩
      have k4 := below_tr k3 hw4
      clear hw1 hw2 hw3 hw4 k2 k3
      go_wp2_with fail
      refine (HA.out _ (hE.below k4)).mono ?_; rintro e w5 ⟨rfl, hw5⟩
      have k5 := below_tr k4 hw5
      go_wp2_with fail
      refine (H7.out _).mono ?_; rintro e w6 ⟨rfl, hw6⟩
      have k6 := below_tr k5 hw6
      go_wp2_with fail
      refine (H8.out _).mono ?_; rintro e w7 ⟨rfl, hw7⟩
      have k7 := below_tr k6 hw7
      go_wp2_with fail
      go_ret
      exact ⟨ret_val rfl, k7⟩
    · obtain ⟨q1, q2⟩ := hm (by omega)
      rw [q1, q2] at h8
      have H8 := Lib.hid h8
      clear h8 hm q1 q2
      go_enter Tryd.func9, Tryd.ntmps9
      go_wp2_with fail
      refine (H1.out _).mono ?_; rintro e w' ⟨rfl, rfl⟩
      go_wp2_with fail
      refine (H2.out _).mono ?_; rintro e w' ⟨rfl, rfl⟩
      go_wp2_with fail
      refine (H3.out _).mono ?_; rintro e w1 ⟨rfl, hw1⟩
      go_wp2_with fail
      refine (H4.out _).mono ?_; rintro e w2 ⟨rfl, hw2⟩
      have k2 := below_tr hw1 hw2
      go_wp2_with fail
      refine (H5.out _).mono ?_; rintro e w3 ⟨rfl, hw3⟩
      have k3 := below_tr k2 hw3
      go_wp2_with fail
      refine (H6.out _).mono ?_; rintro e w4 ⟨rfl, hw4⟩
      have k4 := below_tr k3 hw4
      clear hw1 hw2 hw3 hw4 k2 k3
      go_wp2_with fail
      refine (HA.out _ (hE.below k4)).mono ?_; rintro e w5 ⟨rfl, hw5⟩
      have k5 := below_tr k4 hw5
      go_wp2_with fail
      refine (H7.out _).mono ?_; rintro e w6 ⟨rfl, hw6⟩
      have k6 := below_tr k5 hw6
      go_wp2_with fail
      refine (H8.out _).mono ?_; rintro e w7 ⟨rfl, hw7⟩
      have k7 := below_tr k6 hw7
      go_wp2_with fail
      go_ret
      exact ⟨ret_val rfl, k7⟩
end Go.Proofs.YtbcgecenfedjdaaDoor
