/-
  The walk of awake, as the lexer's laws ask it.
-/
import Derived.Test.YtkcbkfflabkcgaaDoorKf
namespace Go.Proofs.YtkcbkfflabkcgaaDoor
open Go.RowKit

def txA : List UInt8 := [120, 49, 32, 60, 61, 32, 51, 112, 45, 49]
def tkA : List Tk := [⟨5, 0, 2, 0, 0, [120, 49]⟩, ⟨6, 3, 5, 0, 0, [60, 61]⟩, ⟨3, 6, 10, 0, 4609434218613702656, []⟩]
theorem all_A : tokens txA = (tkA, 0, 0) := by kernel_rfl
theorem all_B : tokens [97, 34] = ([], 1, 14) := by kernel_rfl
theorem next_C : nextS [49, 50, 112] 0 = (noTk, 5) := by kernel_rfl
theorem next_D : nextS [38] 0 = (noTk, 5) := by kernel_rfl
theorem word_len : wordS [108, 101, 110] = true := by kernel_rfl
theorem word_x : wordS [120] = false := by kernel_rfl

set_option maxRecDepth 100000 in
set_option maxHeartbeats 4000000 in
theorem awake_any (w : World) (hE : Env w) : Calls Tryd.prog 6 #[] w fun e w' => e = .returned (.bool true) ∧ Below w.heap.size w w' := by
  have hst := store_float
  have HA := Lib.hid (fun w hE => (all_any ⟨#[120, 49, 32, 60, 61, 32, 51, 112, 45, 49]⟩ w hE).mono fun e w' (h : AllRes (tokens txA) w e w') => (show AllRes (tkA, 0, 0) w e w' from by rw [← all_A]; exact h))
  have HB := Lib.hid (fun w hE => (all_any ⟨#[97, 34]⟩ w hE).mono fun e w' (h : AllRes (tokens [97, 34]) w e w') => (show AllRes ([], 1, 14) w e w' from by rw [← all_B]; exact h))
  have HC := Lib.hid (fun w hE => (next_any ⟨#[49, 50, 112]⟩ 0 w hE).mono fun e w' (h : TokErr (nextS [49, 50, 112] 0) w e w') => (show TokErr (noTk, 5) w e w' from by rw [← next_C]; exact h))
  have HD := Lib.hid (fun w hE => (next_any ⟨#[38]⟩ 0 w hE).mono fun e w' (h : TokErr (nextS [38] 0) w e w') => (show TokErr (noTk, 5) w e w' from by rw [← next_D]; exact h))
  have hW1 := word_any [108, 101, 110]
  have hW2 := word_any [120]
  rw [word_len] at hW1
  rw [word_x] at hW2
  have HW1 := Lib.hid hW1
  have HW2 := Lib.hid hW2
  clear hW1 hW2
  have hord : (FloatKind.f64.format.order 4609434218613702656 4609434218613702656 == some .eq) = true := by kernel_rfl
  go_enter Tryd.func6, Tryd.ntmps6
  go_wp2_with fail
  refine (HA.out _ hE).mono ?_; rintro e w1 ⟨v, rfl, hb1, hT⟩
  have hE1 := hE.below hb1
  dsimp only at hT ⊢
  go_wp2_with fail
  refine (HB.out _ hE1).mono ?_; rintro e w2 ⟨v2, rfl, k2, _⟩
  have hE2 := hE1.below k2
  replace hT := hT.below k2
  have hb2 := below_tr hb1 k2
  dsimp only
  go_wp2_with fail
  refine (HC.out _ hE2).mono ?_; rintro e w3 ⟨rfl, k3⟩
  have hE3 := hE2.below k3
  replace hT := hT.below k3
  have hb3 := below_tr hb2 k3
  rw [noTk_cells]
  go_wp2_with fail
  have hE4 : Env (w3.alloc (.cells #[.int .i64 0, .int .i64 0, .int .i64 0, .int .i64 0, .float .f64 0, .string ⟨#[]⟩] 30)) := hE3.below ((Below.refl _ _).alloc (Nat.le_refl _) _)
  replace hT : Toks w.heap.size v tkA (w3.alloc (.cells #[.int .i64 0, .int .i64 0, .int .i64 0, .int .i64 0, .float .f64 0, .string ⟨#[]⟩] 30)) := hT.alloc _
  have hb4 : Below w.heap.size w (w3.alloc (.cells #[.int .i64 0, .int .i64 0, .int .i64 0, .int .i64 0, .float .f64 0, .string ⟨#[]⟩] 30)) := hb3.alloc hb3.size _
  refine (HD.out _ hE4).mono ?_; rintro e w5 ⟨rfl, k5⟩
  replace hT := hT.below k5
  have hb5 := below_tr hb4 k5
  rw [noTk_cells]
  have hT6 : Toks w.heap.size v tkA (w5.alloc (.cells #[.int .i64 0, .int .i64 0, .int .i64 0, .int .i64 0, .float .f64 0, .string ⟨#[]⟩] 30)) := hT.alloc _
  have hb6 : Below w.heap.size w (w5.alloc (.cells #[.int .i64 0, .int .i64 0, .int .i64 0, .int .i64 0, .float .f64 0, .string ⟨#[]⟩] 30)) := hb5.alloc hb5.size _
  obtain ⟨g, cap, hv, hg, hc⟩ := hT6.form (by decide)
  subst hv
  have c5 : (w5.alloc (.cells #[.int .i64 0, .int .i64 0, .int .i64 0, .int .i64 0, .float .f64 0, .string ⟨#[]⟩] 30)).cell? ⟨g, 5, none⟩ = some (.string ⟨#[120, 49]⟩) := hc 0 5 (by decide) (by decide)
  have c11 : (w5.alloc (.cells #[.int .i64 0, .int .i64 0, .int .i64 0, .int .i64 0, .float .f64 0, .string ⟨#[]⟩] 30)).cell? ⟨g, 11, none⟩ = some (.string ⟨#[60, 61]⟩) := hc 1 5 (by decide) (by decide)
  have c7 : (w5.alloc (.cells #[.int .i64 0, .int .i64 0, .int .i64 0, .int .i64 0, .float .f64 0, .string ⟨#[]⟩] 30)).cell? ⟨g, 7, none⟩ = some (.int .i64 3) := hc 1 1 (by decide) (by decide)
  have c16 : (w5.alloc (.cells #[.int .i64 0, .int .i64 0, .int .i64 0, .int .i64 0, .float .f64 0, .string ⟨#[]⟩] 30)).cell? ⟨g, 16, none⟩ = some (.float .f64 4609434218613702656) := hc 2 4 (by decide) (by decide)
  have hgl := (World.ownsRow.lt hT g rfl).2
  have hgne : ¬ g = w5.heap.size := by omega
  have d5 : w5.cell? ⟨g, 5, none⟩ = some (.string ⟨#[120, 49]⟩) := by rw [← c5]; exact (Below.cell ((Below.refl _ w5).alloc (Nat.le_refl _) (.cells #[.int .i64 0, .int .i64 0, .int .i64 0, .int .i64 0, .float .f64 0, .string ⟨#[]⟩] 30)) (p := ⟨g, 5, none⟩) hgl).symm
  have d11 : w5.cell? ⟨g, 11, none⟩ = some (.string ⟨#[60, 61]⟩) := by rw [← c11]; exact (Below.cell ((Below.refl _ w5).alloc (Nat.le_refl _) (.cells #[.int .i64 0, .int .i64 0, .int .i64 0, .int .i64 0, .float .f64 0, .string ⟨#[]⟩] 30)) (p := ⟨g, 11, none⟩) hgl).symm
  have d7 : w5.cell? ⟨g, 7, none⟩ = some (.int .i64 3) := by rw [← c7]; exact (Below.cell ((Below.refl _ w5).alloc (Nat.le_refl _) (.cells #[.int .i64 0, .int .i64 0, .int .i64 0, .int .i64 0, .float .f64 0, .string ⟨#[]⟩] 30)) (p := ⟨g, 7, none⟩) hgl).symm
  have d16 : w5.cell? ⟨g, 16, none⟩ = some (.float .f64 4609434218613702656) := by rw [← c16]; exact (Below.cell ((Below.refl _ w5).alloc (Nat.le_refl _) (.cells #[.int .i64 0, .int .i64 0, .int .i64 0, .int .i64 0, .float .f64 0, .string ⟨#[]⟩] 30)) (p := ⟨g, 16, none⟩) hgl).symm
  clear hc hT6 hT
  simp only [show tkA.length = 3 from rfl]
  go_wp2_with fail
  refine (HW1.out _).mono ?_; rintro e w' ⟨rfl, rfl⟩
  go_wp2_with fail
  refine (HW2.out _).mono ?_; rintro e w' ⟨rfl, rfl⟩
  go_wp2_with fail
  go_ret
  exact ⟨rfl, hb6⟩
end Go.Proofs.YtkcbkfflabkcgaaDoor
