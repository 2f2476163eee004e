/-
  The walks of the codec's writer of numbers, and of its Uint.
-/
import Derived.Test.YtnaamiecljinnaaGreatBd
import Derived.Test.YtnaamiecljinnaaGreatQ1
import Derived.OneCell
import Derived.LoopTactic
import Derived.Lib.MinMax
import Derived.IntWalk
namespace Go.Proofs.YtnaamiecljinnaaGreat
open Go.RowKit

theorem bt_codec : BT 204 := ⟨by kernel_rfl, by decide⟩

theorem or_small : ∀ k : Nat, k < 256 → bits .or .u8 (k : Int) 128 = ((k % 128 + 128 : Nat) : Int) := by decide +kernel
theorem or_128 (n : Nat) : bits .or .u8 ((n : Int) % 256) 128 = ((UInt8.ofNat (n % 128 + 128)).toNat : Int) := by
  have := or_small (n % 256) (by omega)
  rw [show ((n % 256 : Nat) : Int) = (n : Int) % 256 from by omega] at this
  rw [this]
  simp [UInt8.toNat_ofNat']
  omega
theorem u8_mod (n : Nat) : (n : Int) % 256 = ((UInt8.ofNat n).toNat : Int) := by
  simp [UInt8.toNat_ofNat']
theorem uintB_big {f n : Nat} (h : 128 ≤ n) : uintB (f + 1) n = UInt8.ofNat (n % 128 + 128) :: uintB f (n / 128) := by
  rw [uintB, if_neg (by omega)]
theorem uintB_small {f n : Nat} (h : n < 128) : uintB (f + 1) n = [UInt8.ofNat n] := by
  rw [uintB, if_pos h]

set_option maxRecDepth 100000 in
set_option maxHeartbeats 2000000 in
theorem cuint_any (n : Nat) (hn : n < 18446744073709551616) (B b : Nat) (o : List UInt8) (ho : o.length ≤ 10000000) (w : World) (hb : Bld 204 B b o w) :
    Calls Tryz.prog 97 #[.pointer (some ⟨b, 0, none⟩), .int .u64 (n : Int)] w fun e w' => e = .returned (.tuple #[]) ∧ Bld 204 B b (o ++ uintS n) w' ∧ Wrote B b w w' := by
  have HW := Lib.hid (fun (o : List UInt8) (w : World) (h : Bld 204 B b o w) (hl : o.length ≤ 100000000) (c : UInt8) => h.write bt_codec hl c)
  have HO := Lib.hid (fun k => or_128 k)
  go_enter Tryz.func97, Tryz.ntmps97
  go_wp2_with fail
  go_loopw [1] (fun v wr => ∃ (m f : Nat) (q : List UInt8), v = .int .u64 (m : Int) ∧ m < 2 * 128 ^ f ∧ f ≤ 9 ∧ q.length + f = o.length + 9 ∧ Hid (o ++ uintS n = q ++ uintB (f + 1) m) ∧ Bld 204 B b q wr ∧ Wrote B b w wr) (fun v _ => (intOf v).toNat)
  case atStart => exact ⟨n, 9, o, rfl, by simpa using hn, by omega, rfl, rfl, hb, Wrote.refl _ _ _⟩
  case round =>
    obtain ⟨m, f, q, rfl, hm, hf, hq, hO, hbd, hwr⟩ := hrel
    by_cases h1 : 128 ≤ m
    · have t1 : decide ((128 : Int) ≤ (m : Int)) = true := by simp; omega
      obtain ⟨f, rfl⟩ : ∃ g, f = g + 1 := ⟨f - 1, by
        rcases f with _ | f
        · simp at hm; omega
        · omega⟩
      have hm2 : m / 128 < 2 * 128 ^ f := by rw [Nat.pow_succ] at hm; omega
      have HS := Lib.hid (uintB_big (f := f + 1) h1)
      have HC := Lib.hid (HW.out q wr hbd (by omega) (UInt8.ofNat (m % 128 + 128)))
      have HO' := Lib.hid (HO.out m)
      clear hm
      go_wp2_with fail
      rw [HO'.out]
      refine (HC.out).mono ?_; rintro e w1 ⟨rfl, hb1, hw1⟩
      go_wp2_with fail
      go_roundw
      case rel => exact ⟨m / 128, f, q ++ [UInt8.ofNat (m % 128 + 128)], by go_num, hm2, by omega, by simp; omega, by show _ = _; rw [hO.out, HS.out, List.append_assoc]; rfl, hb1, hwr.trans hw1⟩
      case measure => simp [intOf]; omega
    · have t1 : decide ((128 : Int) ≤ (m : Int)) = false := by simp; omega
      have HS := Lib.hid (uintB_small (f := f) (show m < 128 by omega))
      have HC := Lib.hid (HW.out q wr hbd (by omega) (UInt8.ofNat m))
      have HO' := Lib.hid (show (m : Int) = ((UInt8.ofNat m).toNat : Int) from by rw [← u8_mod]; omega)
      go_wp2_with fail
      rw [show Value.int .u8 (m : Int) = .int .u8 ((UInt8.ofNat m).toNat : Int) from congrArg _ HO'.out]
      refine (HC.out).mono ?_; rintro e w1 ⟨rfl, hb1, hw1⟩
      go_wp2_with fail
      go_end0
      exact ⟨rfl, by rw [hO.out, HS.out]; exact hb1, hwr.trans hw1⟩

/-- what a call hands back that makes memory of its own alone -/
def Gives (v : Value) (w : World) (e : Ending) (w' : World) : Prop := e = .returned v ∧ Below w.heap.size w w'

set_option maxRecDepth 100000 in
set_option maxHeartbeats 2000000 in
theorem cUint_any (n : Nat) (hn : n < 18446744073709551616) (w : World) :
    Calls Tryz.prog 67 #[.int .u64 (n : Int)] w (Gives (.string ⟨(uintS n).toArray⟩) w) := by
  have HW := Lib.hid (fun (B b : Nat) (w : World) (h : Bld 204 B b [] w) => cuint_any n hn B b [] (by simp) w h)
  have HT := Lib.hid (fun (B b : Nat) (o : List UInt8) (w : World) (h : Bld 204 B b o w) => h.text bt_codec)
  have hF := Bld.fresh 204 w
  have hB0 : Below w.heap.size w (w.alloc (.cells #[.pointer none, .slice none 0 0] 204)) := (Below.refl _ _).alloc (Nat.le_refl _) _
  go_enter Tryz.func67, Tryz.ntmps67
  go_wp2_with fail
  refine (HW.out _ _ _ hF).mono ?_; rintro e w1 ⟨rfl, hb1, hw1⟩
  go_wp2_with fail
  refine (HT.out _ _ _ _ hb1).mono ?_; rintro e w2 ⟨rfl, hb2⟩
  go_wp2_with fail
  go_ret
  exact ⟨rfl, (hB0.trans hw1.1).trans hb2⟩
end Go.Proofs.YtnaamiecljinnaaGreat
