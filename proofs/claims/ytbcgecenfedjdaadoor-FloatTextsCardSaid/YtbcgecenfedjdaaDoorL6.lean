/-
  The walk of the law FloatTexts.
-/
import Derived.Test.YtbcgecenfedjdaaDoorL1
import Derived.Test.YtbcgecenfedjdaaDoorR1
import Derived.Test.YtbcgecenfedjdaaDoorFx
namespace Go.Proofs.YtbcgecenfedjdaaDoor
open Go.RowKit

theorem textB_len {b : Nat} : (textB b).length ≤ 1000 := by
  unfold textB
  by_cases hn : Fl.isNaN b = true
  · rw [hn, if_pos rfl]; decide
  · have hn' : Fl.isNaN b = false := by simpa using hn
    rw [hn']
    by_cases hi : Fl.rg b = 9218868437227405312
    · rw [if_pos hi]; cases Fl.ng b <;> decide
    · rw [if_neg hi]
      by_cases h0 : Fl.rg b = 0
      · rw [if_pos h0]; cases Fl.ng b <;> decide
      · rw [if_neg h0]
        have hle := nan_lt hn'
        obtain ⟨_, hl, hr, _⟩ := txt_bounds h0 (show Fl.rg b < 9218868437227405312 by omega)
        have h1 := dec_len (txtN (Fl.rg b)) (by omega)
        have h2 := itoa_len (txtE (Fl.rg b)) (by have := hr.1; omega) (by have := hr.2; omega)
        cases Fl.ng b <;> simp <;> omega

set_option maxRecDepth 100000 in
set_option maxHeartbeats 1000000 in
theorem lawFloatTexts (f : Nat) (hf : F64 f) (w : World) (hE : Env w) :
    Calls Tryd.prog 3 #[.float .f64 f] w fun e w' => e = .returned (.bool true) ∧ Below w.heap.size w w' := by
  have HA := Lib.hid (fun w hE => awake_any w hE)
  have H1 := Lib.hid (text_any f hf)
  have h2 := parse_any (textB f) (by have := textB_len (b := f); omega)
  rw [parse_text hf] at h2
  have H2 := Lib.hid h2; clear h2
  have H3 := Lib.hid (rtext_any f hf)
  have H4 := Lib.hid (rcanon_any f)
  have hbr := bits_run
  generalize textB f = t at *
  generalize canon f = c at *
  go_enter Tryd.func3, Tryd.ntmps3
  go_wp2_with fail
  refine (H1.out _ hE).mono ?_; rintro e w1 ⟨rfl, h1⟩
  go_wp2_with fail
  refine (H2.out _ (hE.below h1)).mono ?_; rintro e w2 ⟨rfl, k2⟩
  have h2 := below_tr h1 k2
  go_wp2_with fail
  refine (HA.out _ (hE.below h2)).mono ?_; rintro e w3 ⟨rfl, k3⟩
  have h3 := below_tr h2 k3
  go_wp2_with fail
  refine (H3.out _).mono ?_; rintro e w4 ⟨rfl, k4⟩
  have h4 := below_tr h3 k4
  go_wp2_with fail
  refine (H4.out _).mono ?_; rintro e w' ⟨rfl, rfl⟩
  go_wp2_with fail
  go_ret
  exact ⟨ret_val rfl, h4⟩
end Go.Proofs.YtbcgecenfedjdaaDoor
