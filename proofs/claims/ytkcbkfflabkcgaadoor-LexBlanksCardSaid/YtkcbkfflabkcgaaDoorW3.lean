/-
  Walks of package math's small functions that the floats' texts reach: what each returns, as a plain function of the bits.
-/
import Derived.Test.YtkcbkfflabkcgaaDoorW2
import Derived.Test.YtkcbkfflabkcgaaDoorFt
namespace Go.Proofs.YtkcbkfflabkcgaaDoor
open Go.RowKit

set_option maxHeartbeats 400000 in
theorem abs_any (b : Nat) (hb : F64 b) (w : World) : Calls Tryd.prog 72 #[.float .f64 b] w fun e w' => e = .returned (.float .f64 (Fl.rg b)) ∧ w = w' := by
  have hf := bits_run
  have hg := frombits_run
  have H := Lib.hid (abs_bits hb)
  go_enter Tryd.func72, Tryd.ntmps72
  go_wp2
  go_ret
  exact ⟨ret_val (congrArg (fun n : Int => Value.float .f64 n.toNat) H.out), rfl⟩

theorem sign_i64 {b : Nat} (hb : F64 b) : decide (wrap64 (b : Int) < 0) = Fl.ng b := by
  have hl := rg_lt b
  unfold wrap64
  rcases ng_cases hb with ⟨h, e⟩ | ⟨h, e⟩ <;> rw [h] <;> simp <;> omega

set_option maxHeartbeats 400000 in
theorem signbit_any (b : Nat) (hb : F64 b) (w : World) : Calls Tryd.prog 70 #[.float .f64 b] w fun e w' => e = .returned (.bool (Fl.ng b)) ∧ w = w' := by
  have hf := bits_run
  have H := Lib.hid (sign_i64 hb)
  go_enter Tryd.func70, Tryd.ntmps70
  go_wp2
  go_ret
  exact ⟨ret_val (congrArg Value.bool H.out), rfl⟩

theorem over_max {b : Nat} : Fl.flt 9218868437227405311 (Fl.rg b) = decide (Fl.rg b = 9218868437227405312) := by
  have hl := rg_lt b
  have e0 : Fl.rg (Fl.rg b) = Fl.rg b := Nat.mod_eq_of_lt hl
  have e1 : Fl.ng (Fl.rg b) = false := by unfold Fl.ng; simp; omega
  unfold Fl.flt Fl.K
  rw [show Fl.isNaN 9218868437227405311 = false from by decide, show Fl.ng 9218868437227405311 = false from by decide, show Fl.rg 9218868437227405311 = 9218868437227405311 from by decide, e0, e1]
  unfold Fl.isNaN
  rw [e0]
  simp only [Bool.not_false, Bool.true_and, Bool.false_eq_true, if_false]
  rw [Bool.eq_iff_iff]
  simp
  omega

set_option maxHeartbeats 400000 in
theorem isInf_any (b : Nat) (hb : F64 b) (w : World) : Calls Tryd.prog 80 #[.float .f64 b, .int .i64 0] w fun e w' => e = .returned (.bool (decide (Fl.rg b = 9218868437227405312))) ∧ w = w' := by
  have H := Lib.hid (over_max (b := b))
  go_enter Tryd.func80, Tryd.ntmps80
  go_wp2_with (go_at_call 72; refine (abs_any _ hb _).mono ?_; rintro e w' ⟨rfl, rfl⟩)
  go_ret
  exact ⟨ret_val (by rw [← H.out, ← ord_gt]; rfl), rfl⟩

set_option maxHeartbeats 400000 in
theorem isNaN_any (b : Nat) (w : World) : Calls Tryd.prog 81 #[.float .f64 b] w fun e w' => e = .returned (.bool (Fl.isNaN b)) ∧ w = w' := by
  have h1 := ord_ne b b
  rw [feq_self, Bool.not_not] at h1
  have H := Lib.hid h1; clear h1
  go_enter Tryd.func81, Tryd.ntmps81
  go_wp2
  go_ret
  exact ⟨ret_val (by rw [← H.out]; rfl), rfl⟩

set_option maxHeartbeats 400000 in
theorem inf_pos (w : World) : Calls Tryd.prog 40 #[.int .i64 1] w fun e w' => e = .returned (.float .f64 9218868437227405312) ∧ w = w' := by
  have hg := frombits_run
  go_enter Tryd.func40, Tryd.ntmps40
  go_wp2
  go_ret
  exact ⟨ret_val rfl, rfl⟩
set_option maxHeartbeats 400000 in
theorem inf_neg (w : World) : Calls Tryd.prog 40 #[.int .i64 (-1)] w fun e w' => e = .returned (.float .f64 18442240474082181120) ∧ w = w' := by
  have hg := frombits_run
  go_enter Tryd.func40, Tryd.ntmps40
  go_wp2
  go_ret
  exact ⟨ret_val rfl, rfl⟩
set_option maxHeartbeats 400000 in
theorem mnan_any (w : World) : Calls Tryd.prog 39 #[] w fun e w' => e = .returned (.float .f64 9221120237041090561) ∧ w = w' := by
  have hg := frombits_run
  go_enter Tryd.func39, Tryd.ntmps39
  go_wp2
  go_ret
  exact ⟨ret_val rfl, rfl⟩

/-- the facts on a float that is above nought and finite, as the walk asks them -/
theorem pos_facts {r : Nat} (h0 : r ≠ 0) (h : r < 9218868437227405312) : F64 r ∧ Fl.rg r = r ∧ Fl.ng r = false ∧ Fl.isNaN r = false ∧ FloatKind.f64.format.order r 0 = some .gt := by
  have e0 : Fl.rg r = r := Nat.mod_eq_of_lt (by omega)
  have e1 : Fl.ng r = false := by unfold Fl.ng; simp; omega
  have e2 : Fl.isNaN r = false := by unfold Fl.isNaN; rw [e0]; simp; omega
  refine ⟨show r < _ by omega, e0, e1, e2, ?_⟩
  show Ieee.double.order r 0 = _
  rw [Fl.order_some e2 (by decide), Fl.cmp_int]
  have k : Fl.K r = r := by unfold Fl.K; rw [e0, e1]; rfl
  rw [k, show Fl.K 0 = 0 from by decide, if_neg (by omega), if_neg (by omega)]

theorem pos_order {r s : Nat} (hr : r < 9218868437227405313) (hs : s < 9218868437227405313) : FloatKind.f64.format.order r s = some (compare (r : Int) (s : Int)) := by
  have f : ∀ r : Nat, r < 9218868437227405313 → Fl.isNaN r = false ∧ Fl.K r = r := by
    intro r hr
    have e0 : Fl.rg r = r := Nat.mod_eq_of_lt (by omega)
    have e1 : Fl.ng r = false := by unfold Fl.ng; simp; omega
    refine ⟨by unfold Fl.isNaN; rw [e0]; simp; omega, by unfold Fl.K; rw [e0, e1]; rfl⟩
  show Ieee.double.order r s = _
  rw [Fl.order_some (f r hr).1 (f s hs).1, (f r hr).2, (f s hs).2]

set_option maxHeartbeats 400000 in
theorem normalize_any (r : Nat) (h0 : r ≠ 0) (h : r < 9218868437227405312) (w : World) :
    Calls Tryd.prog 82 #[.float .f64 r] w fun e w' => e = .returned (.tuple #[.float .f64 (nrm r), .int .i64 (nrmE r)]) ∧ w = w' := by
  obtain ⟨hb, e0, e1, e2, _⟩ := pos_facts h0 h
  have ha := abs_any r hb
  rw [e0] at ha
  by_cases g : r < 4503599627370496
  · have ho : FloatKind.f64.format.order r 4503599627370496 = some .lt := by
      rw [pos_order (by omega) (by omega), Fl.cmp_int, if_pos (by omega)]
    have hm : Ieee.double.mul r 4841369599423283200 = some (nrm r) := by
      unfold Ieee.Format.mul
      rw [Fl.read_fin (by rw [e0]; exact h), e0, e1, show Ieee.double.read 4841369599423283200 = .number false 4503599627370496 0 from by decide]
      have f1 : Fl.mag r = r := by unfold Fl.mag; rw [if_pos g]
      have f2 : Fl.plc r = 0 := by unfold Fl.plc; rw [if_pos g]
      rw [f1, f2]
      simp only [Ieee.Datum.product, Bool.false_xor, Option.map_some, Ieee.Format.write]
      rw [show (4503599627370496 : Nat) = 2 ^ 52 from rfl, nearest_shift]
      have hl : r.log2 < 52 := (Nat.log2_lt h0).2 (by simpa using g)
      rw [show (-1074 + ((0 : Nat) : Int) + 0 + ((52 : Nat) : Int)) = -1022 from by omega, Fl.nearest_fin _ h0 (by omega) (by omega) (by omega), word_false]
      unfold nrm; rw [if_pos g]
    have hr := fun w => run_float_arith (P := Tryd.prog) w .mul 28 .f64 r 4841369599423283200 (nrm r) hm
    have HE := Lib.hid (show nrmE r = -52 from by unfold nrmE; rw [if_pos g])
    have HA := Lib.hid ha
    clear hm g ha hb e0 e1 e2 h0 h
    go_enter Tryd.func82, Tryd.ntmps82
    go_wp2_with (go_at_call 72; refine (HA.out _).mono ?_; rintro e w' ⟨rfl, rfl⟩)
    go_ret2
    exact ⟨ret_val (by rw [HE.out]; rfl), rfl⟩
  · have ho : ∃ o, FloatKind.f64.format.order r 4503599627370496 = some o ∧ (some o == some .lt) = false := by
      rw [pos_order (by omega) (by omega), Fl.cmp_int, if_neg (by omega)]; split <;> exact ⟨_, rfl, rfl⟩
    obtain ⟨o, ho, ho2⟩ := ho
    have HE := Lib.hid (show nrmE r = 0 from by unfold nrmE; rw [if_neg g])
    have HN := Lib.hid (show nrm r = r from by unfold nrm; rw [if_neg g])
    have HA := Lib.hid ha
    clear g ha hb e0 e1 e2 h0 h
    go_enter Tryd.func82, Tryd.ntmps82
    go_wp2_with (go_at_call 72; refine (HA.out _).mono ?_; rintro e w' ⟨rfl, rfl⟩)
    go_ret2
    exact ⟨ret_val (by rw [HE.out, HN.out]; rfl), rfl⟩
end Go.Proofs.YtkcbkfflabkcgaaDoor
