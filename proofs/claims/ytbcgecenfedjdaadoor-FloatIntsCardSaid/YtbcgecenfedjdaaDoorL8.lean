/-
  The walk of the law FloatInts.
-/
import Derived.Test.YtbcgecenfedjdaaDoorL1
import Derived.Test.YtbcgecenfedjdaaDoorR6
import Derived.Test.YtbcgecenfedjdaaDoorR7
import Derived.Test.YtbcgecenfedjdaaDoorW9
namespace Go.Proofs.YtbcgecenfedjdaaDoor
open Go.RowKit Ieee

set_option maxRecDepth 100000 in
set_option maxHeartbeats 1000000 in
theorem lawFloatInts (f : Nat) (hf : F64 f) (n : Int) (wn : (Lit.int .i64 n).wf = true) (w : World) (hE : Env w) :
    Calls Tryd.prog 6 #[.float .f64 f, .int .i64 n] w fun e w' => e = .returned (.bool true) ∧ Below w.heap.size w w' := by
  have bn : -9223372036854775808 ≤ n ∧ n ≤ 9223372036854775807 := by simpa [Lit.wf, IntKind.min, IntKind.max, IntKind.signed, IntKind.bits] using wn
  obtain ⟨hlo, hhi⟩ := bn
  have HA := Lib.hid (fun w hE => awake_any w hE)
  have H1 := Lib.hid (toInt_any f hf)
  have H2 := Lib.hid (rtoInt_any f hf)
  have h3 := fromInt_any n
  rw [show floatOfInt .f64 n = double.nearest (decide (n < 0)) n.natAbs 0 from rfl] at h3
  have H3 := Lib.hid h3
  have H4 := Lib.hid (rfrom_any n hlo hhi)
  clear h3 hlo hhi
  have hbr := bits_run
  generalize toIntV f = a at *
  generalize toIntE f = b at *
  generalize double.nearest (decide (n < 0)) n.natAbs 0 = c at *
  go_enter Tryd.func6, Tryd.ntmps6
  go_wp2_with fail
  refine (H1.out _).mono ?_; rintro e w1 ⟨rfl, k, rfl⟩
  have h1 := below_drewN w k
  go_wp2_with fail
  refine (H2.out _).mono ?_; rintro e w' ⟨rfl, rfl⟩
  go_wp2_with fail
  refine (HA.out _ (hE.below h1)).mono ?_; rintro e w3 ⟨rfl, k3⟩
  have h3 := below_tr h1 k3
  go_wp2_with fail
  refine (H3.out _).mono ?_; rintro e w' ⟨rfl, rfl⟩
  go_wp2_with fail
  refine (H4.out _).mono ?_; rintro e w' ⟨rfl, rfl⟩
  go_wp2_with fail
  go_ret
  exact ⟨ret_val rfl, h3⟩
end Go.Proofs.YtbcgecenfedjdaaDoor
