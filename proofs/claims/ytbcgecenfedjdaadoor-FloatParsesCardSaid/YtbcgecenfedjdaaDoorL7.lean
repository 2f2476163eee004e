/-
  The walk of the law FloatParses.
-/
import Derived.Test.YtbcgecenfedjdaaDoorL1
import Derived.Test.YtbcgecenfedjdaaDoorR5
namespace Go.Proofs.YtbcgecenfedjdaaDoor
open Go.RowKit

theorem bytes_eta (s : ByteArray) : (⟨s.data.toList.toArray⟩ : ByteArray) = s := by
  apply ByteArray.ext; simp

set_option maxRecDepth 100000 in
set_option maxHeartbeats 1000000 in
theorem lawFloatParses (s : ByteArray) (w : World) (hE : Env w) :
    Calls Tryd.prog 4 #[.string s] w fun e w' => e = .returned (.bool true) ∧ Below w.heap.size w w' := by
  have HA := Lib.hid (fun w hE => awake_any w hE)
  by_cases hs : s.size ≤ 200
  · have hl : s.data.toList.length ≤ 1000000 := by simp; omega
    have h1 := parse_any s.data.toList hl
    have h2 := rparse_any s.data.toList hl
    rw [bytes_eta] at h1 h2
    have H1 := Lib.hid h1
    have H2 := Lib.hid h2
    clear h1 h2 hl
    have ht : decide ((200 : Int) < (s.size : Int)) = false := by simp; omega
    have hbr := bits_run
    generalize (parseB s.data.toList).1 = a at *
    generalize (parseB s.data.toList).2 = b at *
    clear hs
    go_enter Tryd.func4, Tryd.ntmps4
    go_wp2_with fail
    refine (HA.out _ hE).mono ?_; rintro e w1 ⟨rfl, h1⟩
    go_wp2_with fail
    refine (H1.out _ (hE.below h1)).mono ?_; rintro e w2 ⟨rfl, k2⟩
    have h2 := below_tr h1 k2
    go_wp2_with fail
    refine (H2.out _).mono ?_; rintro e w3 ⟨rfl, k3⟩
    have h3 := below_tr h2 k3
    go_wp2_with fail
    go_ret
    exact ⟨ret_val rfl, h3⟩
  · have ht : decide ((200 : Int) < (s.size : Int)) = true := by simp; omega
    clear hs
    go_enter Tryd.func4, Tryd.ntmps4
    go_wp2_with fail
    refine (HA.out _ hE).mono ?_; rintro e w1 ⟨rfl, h1⟩
    go_wp2_with fail
    refine (HA.out _ (hE.below h1)).mono ?_; rintro e w2 ⟨rfl, k2⟩
    have h2 := below_tr h1 k2
    go_wp2_with fail
    go_ret
    exact ⟨ret_val rfl, h2⟩
end Go.Proofs.YtbcgecenfedjdaaDoor
