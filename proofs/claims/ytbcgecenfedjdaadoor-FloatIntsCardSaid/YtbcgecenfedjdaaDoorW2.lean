/-
  Walks of the program's float arithmetic, its order, and the small functions of package math: what each returns, as a plain function of the bits.
-/
import Derived.Test.YtbcgecenfedjdaaDoorW1
import Derived.Test.YtbcgecenfedjdaaDoorFa
namespace Go.Proofs.YtbcgecenfedjdaaDoor
open Go.RowKit

/-- the NaN that Go picks where an operation has no answer -/
def nanPick (w : World) (a b : Nat) : Nat := (Question.nanBits .f64 a b).cut (w.tape w.drawn (.nanBits .f64 a b))
theorem nanPick_nan (w : World) (a b : Nat) : canon (nanPick w a b) = cnan := by
  have h : Fl.isNaN (nanPick w a b) = true := by
    unfold nanPick Question.cut Fl.isNaN Fl.rg
    simp only [decide_eq_true_eq, Nat.reducePow, Nat.reduceSub]
    generalize w.tape w.drawn (.nanBits .f64 a b) = t
    have h1 : t / 2 % 4503599627370495 < 4503599627370495 := Nat.mod_lt _ (by omega)
    have h2 : t % 2 < 2 := Nat.mod_lt _ (by omega)
    generalize t / 2 % 4503599627370495 = y at *
    generalize t % 2 = x at *
    omega
  unfold canon; rw [h]; rfl
theorem run_float_none {P : Program} (w : World) (op : BinOp) (t : TypeId) (x y : Nat) (hop : op = .add ∨ op = .sub ∨ op = .mul ∨ op = .quo) (h : floatBits op .f64 x y = none) :
    (binOp op t (.float .f64 x) (.float .f64 y)).run P w = .ok (.float .f64 (nanPick w x y)) w.drew := by
  unfold floatBits at h
  rcases hop with rfl | rfl | rfl | rfl <;> simp only at h <;> simp [binOp, Op.floatArith, h, nanPick, Question.forced]

set_option maxHeartbeats 400000 in
theorem add_any (a b : Nat) (w : World) : Calls Tryd.prog 31 #[.float .f64 a, .float .f64 b] w fun e w' => e = .returned (.float .f64 (addB a b)) ∧ ∃ n, w' = w.drewN n := by
  cases h : Ieee.double.add a b with
  | none =>
    have hr := fun w => run_float_none (P := Tryd.prog) w .add 22 a b (.inl rfl) h
    go_enter Tryd.func31, Tryd.ntmps31
    go_wp2_with (go_at_call 24; refine (canon_any _ _).mono ?_; rintro e w' ⟨rfl, rfl⟩)
    go_ret
    exact ⟨ret_val (by rw [addB, h]; exact congrArg _ (nanPick_nan _ _ _)), 1, rfl⟩
  | some r =>
    have hr := fun w => run_float_arith (P := Tryd.prog) w .add 22 .f64 a b r h
    go_enter Tryd.func31, Tryd.ntmps31
    go_wp2_with (go_at_call 24; refine (canon_any _ _).mono ?_; rintro e w' ⟨rfl, rfl⟩)
    go_ret
    exact ⟨ret_val (by rw [addB, h]; rfl), 0, rfl⟩
set_option maxHeartbeats 400000 in
theorem sub_any (a b : Nat) (w : World) : Calls Tryd.prog 33 #[.float .f64 a, .float .f64 b] w fun e w' => e = .returned (.float .f64 (subB a b)) ∧ ∃ n, w' = w.drewN n := by
  cases h : Ieee.double.sub a b with
  | none =>
    have hr := fun w => run_float_none (P := Tryd.prog) w .sub 22 a b (.inr (.inl rfl)) h
    go_enter Tryd.func33, Tryd.ntmps33
    go_wp2_with (go_at_call 24; refine (canon_any _ _).mono ?_; rintro e w' ⟨rfl, rfl⟩)
    go_ret
    exact ⟨ret_val (by rw [subB, h]; exact congrArg _ (nanPick_nan _ _ _)), 1, rfl⟩
  | some r =>
    have hr := fun w => run_float_arith (P := Tryd.prog) w .sub 22 .f64 a b r h
    go_enter Tryd.func33, Tryd.ntmps33
    go_wp2_with (go_at_call 24; refine (canon_any _ _).mono ?_; rintro e w' ⟨rfl, rfl⟩)
    go_ret
    exact ⟨ret_val (by rw [subB, h]; rfl), 0, rfl⟩
set_option maxHeartbeats 400000 in
theorem mul_any (a b : Nat) (w : World) : Calls Tryd.prog 32 #[.float .f64 a, .float .f64 b] w fun e w' => e = .returned (.float .f64 (mulB a b)) ∧ ∃ n, w' = w.drewN n := by
  cases h : Ieee.double.mul a b with
  | none =>
    have hr := fun w => run_float_none (P := Tryd.prog) w .mul 22 a b (.inr (.inr (.inl rfl))) h
    go_enter Tryd.func32, Tryd.ntmps32
    go_wp2_with (go_at_call 24; refine (canon_any _ _).mono ?_; rintro e w' ⟨rfl, rfl⟩)
    go_ret
    exact ⟨ret_val (by rw [mulB, h]; exact congrArg _ (nanPick_nan _ _ _)), 1, rfl⟩
  | some r =>
    have hr := fun w => run_float_arith (P := Tryd.prog) w .mul 22 .f64 a b r h
    go_enter Tryd.func32, Tryd.ntmps32
    go_wp2_with (go_at_call 24; refine (canon_any _ _).mono ?_; rintro e w' ⟨rfl, rfl⟩)
    go_ret
    exact ⟨ret_val (by rw [mulB, h]; rfl), 0, rfl⟩
set_option maxHeartbeats 400000 in
theorem div_any (a b : Nat) (w : World) : Calls Tryd.prog 35 #[.float .f64 a, .float .f64 b] w fun e w' => e = .returned (.float .f64 (divB a b)) ∧ ∃ n, w' = w.drewN n := by
  cases h : Ieee.double.div a b with
  | none =>
    have hr := fun w => run_float_none (P := Tryd.prog) w .quo 22 a b (.inr (.inr (.inr rfl))) h
    go_enter Tryd.func35, Tryd.ntmps35
    go_wp2_with (go_at_call 24; refine (canon_any _ _).mono ?_; rintro e w' ⟨rfl, rfl⟩)
    go_ret
    exact ⟨ret_val (by rw [divB, h]; exact congrArg _ (nanPick_nan _ _ _)), 1, rfl⟩
  | some r =>
    have hr := fun w => run_float_arith (P := Tryd.prog) w .quo 22 .f64 a b r h
    go_enter Tryd.func35, Tryd.ntmps35
    go_wp2_with (go_at_call 24; refine (canon_any _ _).mono ?_; rintro e w' ⟨rfl, rfl⟩)
    go_ret
    exact ⟨ret_val (by rw [divB, h]; rfl), 0, rfl⟩
set_option maxHeartbeats 400000 in
theorem neg_any (b : Nat) (w : World) : Calls Tryd.prog 34 #[.float .f64 b] w fun e w' => e = .returned (.float .f64 (negB b)) ∧ w = w' := by
  have hneg : ∀ w : World, (Op.unary .neg (.float .f64 b)).run Tryd.prog w = .ok (.float .f64 (flipB b)) w := fun _ => rfl
  go_enter Tryd.func34, Tryd.ntmps34
  go_wp2_with fail
  refine (canon_any _ _).mono ?_; rintro e w' ⟨rfl, rfl⟩
  go_wp2_with fail
  go_ret
  exact ⟨ret_val rfl, rfl⟩

set_option maxHeartbeats 400000 in
theorem fromInt_any (n : Int) (w : World) : Calls Tryd.prog 27 #[.int .i64 n] w fun e w' => e = .returned (.float .f64 (floatOfInt .f64 n)) ∧ w = w' := by
  go_enter Tryd.func27, Tryd.ntmps27
  go_wp2
  go_ret
  exact ⟨ret_val rfl, rfl⟩

set_option maxHeartbeats 400000 in
theorem rank_any (b : Nat) (hb : F64 b) (w : World) : Calls Tryd.prog 58 #[.float .f64 b] w fun e w' => e = .returned (.tuple #[.int .i64 (rank1 b), .int .i64 (rank2 b)]) ∧ w = w' := by
  have h1 := ord_ne b b
  rw [feq_self] at h1
  have hz : Fl.feq b 0 = (!Fl.isNaN b && isZ b) := by
    unfold Fl.feq Fl.K isZ
    cases Fl.isNaN b <;> simp [show Fl.isNaN 0 = false from by decide, show Fl.rg 0 = 0 from by decide, show Fl.ng 0 = false from by decide]
    cases Fl.ng b <;> simp
  have h2 := ord_eq b 0
  rw [hz] at h2
  clear hz
  cases hn : Fl.isNaN b
  · rw [hn] at h1 h2
    cases hz : isZ b
    · rw [hz] at h2
      have H1 := Lib.hid (show rank1 b = 0 from by simp [rank1, hn])
      have H2 := Lib.hid (show rank2 b = 0 from by simp [rank2, hn, hz])
      go_enter Tryd.func58, Tryd.ntmps58
      go_wp2
      go_ret2
      exact ⟨ret_val (by rw [H1.out, H2.out]; rfl), rfl⟩
    · have hr : Fl.rg b = 0 := by simpa [isZ] using hz
      rcases ng_cases hb with ⟨h, he⟩ | ⟨h, he⟩
      · rw [hr] at he
        have H1 := Lib.hid (show rank1 b = 0 from by simp [rank1, hn])
        have H2 := Lib.hid (show rank2 b = -1 from by simp [rank2, hn, hz, h])
        clear hn hz h hr h1 h2 hb
        subst he
        have hq := fun w => run_float_arith (P := Tryd.prog) w .quo 22 .f64 4607182418800017408 9223372036854775808 18442240474082181120 (by kernel_rfl)
        have e1 : FloatKind.f64.format.order 9223372036854775808 9223372036854775808 = some .eq := by kernel_rfl
        have e2 : FloatKind.f64.format.order 9223372036854775808 0 = some .eq := by kernel_rfl
        have e3 : FloatKind.f64.format.order 18442240474082181120 0 = some .lt := by kernel_rfl
        go_enter Tryd.func58, Tryd.ntmps58
        go_wp2
        go_ret2
        exact ⟨ret_val (by rw [H1.out, H2.out]; rfl), rfl⟩
      · rw [hr] at he
        have H1 := Lib.hid (show rank1 b = 0 from by simp [rank1, hn])
        have H2 := Lib.hid (show rank2 b = 0 from by simp [rank2, hn, hz, h])
        clear hn hz h hr h1 h2 hb
        subst he
        have hq := fun w => run_float_arith (P := Tryd.prog) w .quo 22 .f64 4607182418800017408 0 9218868437227405312 (by kernel_rfl)
        have e1 : FloatKind.f64.format.order 0 0 = some .eq := by kernel_rfl
        have e3 : FloatKind.f64.format.order 9218868437227405312 0 = some .gt := by kernel_rfl
        go_enter Tryd.func58, Tryd.ntmps58
        go_wp2
        go_ret2
        exact ⟨ret_val (by rw [H1.out, H2.out]; rfl), rfl⟩
  · rw [hn] at h1
    have H1 := Lib.hid (show rank1 b = 1 from by simp [rank1, hn])
    have H2 := Lib.hid (show rank2 b = 0 from by simp [rank2, hn])
    go_enter Tryd.func58, Tryd.ntmps58
    go_wp2
    go_ret2
    exact ⟨ret_val (by rw [H1.out, H2.out]; rfl), rfl⟩

def ordO (r1a r1b r2a r2b : Int) (o : Option Ordering) : Int :=
  if r1a ≠ r1b then r1a - r1b else if r1a = 1 then 0
  else if (o == some .lt) || ((o == some .eq) && decide (r2a < r2b)) then -1
  else if (o == some .gt) || ((o == some .eq) && decide (r2b < r2a)) then 1 else 0
theorem ordB_O (a b : Nat) : ordB a b = ordO (rank1 a) (rank1 b) (rank2 a) (rank2 b) (FloatKind.f64.format.order a b) := by
  rw [← ordF_eq]; unfold ordF ordO
  have h3 : Fl.feq a b = (FloatKind.f64.format.order a b == some .eq) := (ord_eq a b).symm
  rw [ord_lt, ord_gt, ← h3]
theorem rank1_or (b : Nat) : rank1 b = 0 ∨ rank1 b = 1 := by unfold rank1; split <;> simp
theorem rank2_or (b : Nat) : rank2 b = 0 ∨ rank2 b = -1 := by unfold rank2; split <;> (try split) <;> simp

set_option maxHeartbeats 1600000 in
theorem order_any (a b : Nat) (ha : F64 a) (hb : F64 b) (w : World) : Calls Tryd.prog 18 #[.float .f64 a, .float .f64 b] w fun e w' => e = .returned (.int .i64 (ordB a b)) ∧ w = w' := by
  have HK := Lib.hid (ordB_O a b)
  rcases rank1_or a with ea | ea <;> rcases rank1_or b with eb | eb
  case inl.inl =>
    rcases rank2_or a with fa | fa <;> rcases rank2_or b with fb | fb <;> rcases ho : FloatKind.f64.format.order a b with _ | o
    all_goals (try cases o)
    all_goals
      rw [ea, eb, fa, fb, ho] at HK
      go_enter Tryd.func18, Tryd.ntmps18
      go_wp2_with fail
      refine (rank_any _ ha _).mono ?_; rintro e w' ⟨rfl, rfl⟩
      go_wp2_with fail
      refine (rank_any _ hb _).mono ?_; rintro e w' ⟨rfl, rfl⟩
      go_wp2_with fail
      go_ret
      exact ⟨ret_val (by rw [HK.out]; rfl), rfl⟩
  all_goals
    have HV : Hid (ordB a b = rank1 a - rank1 b) := by unfold Hid; rw [HK.out, ea, eb]; unfold ordO; split <;> simp_all
    rw [ea, eb] at HV
    go_enter Tryd.func18, Tryd.ntmps18
    go_wp2_with fail
    refine (rank_any _ ha _).mono ?_; rintro e w' ⟨rfl, rfl⟩
    go_wp2_with fail
    refine (rank_any _ hb _).mono ?_; rintro e w' ⟨rfl, rfl⟩
    go_wp2_with fail
    go_ret
    exact ⟨ret_val (by rw [HV.out]; rfl), rfl⟩
end Go.Proofs.YtbcgecenfedjdaaDoor
