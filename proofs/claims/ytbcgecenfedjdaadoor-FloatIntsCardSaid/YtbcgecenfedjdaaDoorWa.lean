/-
  The walk of the law's awake: the answers that the document fixes are the program's.
-/
import Derived.Test.YtbcgecenfedjdaaDoorW8
import Derived.Test.YtbcgecenfedjdaaDoorW9
namespace Go.Proofs.YtbcgecenfedjdaaDoor
open Go.RowKit Ieee

theorem dec3 : Lib.decDigits 3 = [51] := by rw [Lib.decDigits]; rfl
theorem dec5 : Lib.decDigits 5 = [53] := by rw [Lib.decDigits]; rfl
theorem itoa2 : Lib.itoa 2 = [50] := by unfold Lib.itoa; rw [if_neg (by omega), show (2 : Int).toNat = 2 from rfl, Lib.decDigits]; rfl
theorem itoa1 : Lib.itoa (-1) = [45, 49] := by unfold Lib.itoa; rw [if_pos (by omega), show (-1 : Int).natAbs = 1 from rfl, Lib.decDigits]; rfl
theorem text12 : textB 4622945017495814144 = [51, 112, 50] := by
  unfold textB
  rw [show Fl.isNaN 4622945017495814144 = false from by decide +kernel, show Fl.ng 4622945017495814144 = false from by decide +kernel, show Fl.rg 4622945017495814144 = 4622945017495814144 from by decide +kernel,
    show txtN 4622945017495814144 = 3 from by decide +kernel, show txtE 4622945017495814144 = 2 from by decide +kernel, dec3, itoa2]; rfl
theorem text25 : textB 13836183955189006336 = [45, 53, 112, 45, 49] := by
  unfold textB
  rw [show Fl.isNaN 13836183955189006336 = false from by decide +kernel, show Fl.ng 13836183955189006336 = true from by decide +kernel, show Fl.rg 13836183955189006336 = 4612811918334230528 from by decide +kernel,
    show txtN 4612811918334230528 = 5 from by decide +kernel, show txtE 4612811918334230528 = -1 from by decide +kernel, dec5, itoa1]; rfl
theorem textNaN : textB 9221120237041090560 = [110, 97, 110] := by unfold textB; rw [show Fl.isNaN 9221120237041090560 = true from by decide]; rfl
theorem parse3p2 : parseB [51, 112, 50] = (4622945017495814144, 0) := by decide +kernel
theorem parsex : parseB [120] = (0, 5) := by decide +kernel
theorem toInt25 : toIntV 13836183955189006336 = -2 ∧ toIntE 13836183955189006336 = 0 := by decide +kernel
theorem div1z : divB 4607182418800017408 9223372036854775808 = 18442240474082181120 := by decide +kernel
theorem div00 : divB 0 0 = 9221120237041090560 := by decide +kernel
theorem add53 : addB 4845873199050653696 4607182418800017408 = 4845873199050653696 := by decide +kernel

set_option maxHeartbeats 400000 in
theorem copysign_m1 (w : World) : Calls Tryd.prog 51 #[.float .f64 0, .float .f64 13830554455654793216] w fun e w' => e = .returned (.float .f64 9223372036854775808) ∧ w = w' := by
  have hf := bits_run
  have hg := frombits_run
  have e0 : bits .andNot .u64 0 9223372036854775808 = 0 := by decide
  have e1 : bits .and .u64 13830554455654793216 9223372036854775808 = 9223372036854775808 := by decide
  have e2 : bits .or .u64 0 9223372036854775808 = 9223372036854775808 := by decide
  go_enter Tryd.func51, Tryd.ntmps51
  go_wp2
  go_ret
  exact ⟨ret_val rfl, rfl⟩

theorem below_of {P : Program} {f : FuncId} {args : Array Value} {w : World} {v : Value} (h : Calls P f args w fun e w' => e = .returned v ∧ ∃ n, w' = w.drewN n) : Calls P f args w fun e w' => e = .returned v ∧ Below w.heap.size w w' :=
  h.mono fun _ _ ⟨h1, n, h2⟩ => ⟨h1, by rw [h2]; exact below_drewN _ _⟩
theorem below_n {a b : World} (h : Below a.heap.size a b) (n : Nat) : Below a.heap.size a (b.drewN n) := below_tr h (below_drewN b n)

set_option maxRecDepth 100000 in
set_option maxHeartbeats 2000000 in
theorem awake_any (w : World) (hE : Env w) : Calls Tryd.prog 13 #[] w fun e w' => e = .returned (.bool true) ∧ Below w.heap.size w w' := by
  have HP1 := Lib.hid (parse_any [51, 112, 50] (by simp))
  rw [parse3p2] at HP1
  have HP2 := Lib.hid (parse_any [120] (by simp))
  rw [parsex] at HP2
  have HI := Lib.hid (fun w => below_of (toInt_any 13836183955189006336 (by unfold F64; omega) w))
  rw [toInt25.1, toInt25.2] at HI
  have HT1 := Lib.hid (text_any 4622945017495814144 (by unfold F64; omega))
  rw [text12] at HT1
  have HT2 := Lib.hid (text_any 13836183955189006336 (by unfold F64; omega))
  rw [text25] at HT2
  have HT3 := Lib.hid (text_any 9221120237041090560 (by unfold F64; omega))
  rw [textNaN] at HT3
  have HD1 := Lib.hid (fun w => below_of (div_any 4607182418800017408 9223372036854775808 w))
  rw [div1z] at HD1
  have HD2 := Lib.hid (fun w => below_of (div_any 0 0 w))
  rw [div00] at HD2
  have HEq := Lib.hid (equal_any 0 9223372036854775808)
  rw [show Fl.feq 0 9223372036854775808 = true from by decide] at HEq
  have HO := Lib.hid (order_any 9223372036854775808 0 (by unfold F64; omega) (by unfold F64; omega))
  rw [show ordB 9223372036854775808 0 = -1 from by decide] at HO
  have HA := Lib.hid (fun w => below_of (add_any 4845873199050653696 4607182418800017408 w))
  rw [add53] at HA
  have HC := Lib.hid copysign_m1
  have o1 : FloatKind.f64.format.order 4622945017495814144 4622945017495814144 = some .eq := by kernel_rfl
  have o2 : FloatKind.f64.format.order 18442240474082181120 0 = some .lt := by kernel_rfl
  have o3 : FloatKind.f64.format.order 4845873199050653696 4845873199050653696 = some .eq := by kernel_rfl
  go_enter Tryd.func13, Tryd.ntmps13
  go_wp2_with fail
  refine (HC.out _).mono ?_; rintro e w' ⟨rfl, rfl⟩
  go_wp2_with fail
  refine (HP1.out _ hE).mono ?_; rintro e w1 ⟨rfl, hw1⟩
  go_wp2_with fail
  refine (HI.out _).mono ?_; rintro e w2 ⟨rfl, hw2⟩
  have h2 := below_tr hw1 hw2
  go_wp2_with fail
  refine (HP2.out _ (hE.below h2)).mono ?_; rintro e w3 ⟨rfl, hw3⟩
  have h3 := below_tr h2 hw3
  clear hw1 hw2 h2 hw3
  go_wp2_with fail
  refine (HT1.out _ (hE.below h3)).mono ?_; rintro e w4 ⟨rfl, hw4⟩
  have h4 := below_tr h3 hw4
  clear h3 hw4
  go_wp2_with fail
  refine (HT2.out _ (hE.below h4)).mono ?_; rintro e w5 ⟨rfl, hw5⟩
  have h5 := below_tr h4 hw5
  clear h4 hw5
  go_wp2_with fail
  refine (HD1.out _).mono ?_; rintro e w6 ⟨rfl, hw6⟩
  have h6 := below_tr h5 hw6
  go_wp2_with fail
  refine (HD2.out _).mono ?_; rintro e w7 ⟨rfl, hw7⟩
  have h7 := below_tr h6 hw7
  go_wp2_with fail
  refine (HT3.out _ (hE.below h7)).mono ?_; rintro e w8 ⟨rfl, hw8⟩
  have h8 := below_tr h7 hw8
  clear h5 hw6 h6 hw7 h7 hw8
  go_wp2_with fail
  refine (HEq.out _).mono ?_; rintro e w' ⟨rfl, rfl⟩
  go_wp2_with fail
  refine (HO.out _).mono ?_; rintro e w' ⟨rfl, rfl⟩
  go_wp2_with fail
  refine (HA.out _).mono ?_; rintro e w9 ⟨rfl, hw9⟩
  have h9 := below_tr h8 hw9
  go_wp2_with fail
  go_ret
  exact ⟨ret_val rfl, h9⟩
end Go.Proofs.YtbcgecenfedjdaaDoor
