/-
  The walk of the program's Text: any float's text.
-/
import Derived.Test.YtkcbkfflabkcgaaDoorW5
namespace Go.Proofs.YtkcbkfflabkcgaaDoor
open Go.RowKit Ieee

def textB (b : Nat) : List UInt8 :=
  if Fl.isNaN b then [110, 97, 110] else (if Fl.ng b then [45] else []) ++
    (if Fl.rg b = 9218868437227405312 then [105, 110, 102] else if Fl.rg b = 0 then [48, 112, 48] else Lib.decDigits (txtN (Fl.rg b)) ++ 112 :: Lib.itoa (txtE (Fl.rg b)))

theorem sub_self_fin {b : Nat} (h : Fl.rg b < 9218868437227405312) : double.sub b b = some 0 := by
  unfold Format.sub
  rw [Fl.read_fin h]
  simp only [Datum.opposite, Datum.sum]
  have e : signed (Fl.ng b) (Fl.mag (Fl.rg b)) (-1074 + (Fl.plc (Fl.rg b) : Int) - min (-1074 + (Fl.plc (Fl.rg b) : Int)) (-1074 + (Fl.plc (Fl.rg b) : Int))).toNat + signed (!Fl.ng b) (Fl.mag (Fl.rg b)) (-1074 + (Fl.plc (Fl.rg b) : Int) - min (-1074 + (Fl.plc (Fl.rg b) : Int)) (-1074 + (Fl.plc (Fl.rg b) : Int))).toNat = 0 := by
    rw [Fl.signed_eq, Fl.signed_eq]; cases Fl.ng b <;> simp <;> omega
  rw [e]
  simp only [if_true, Option.map_some, Format.write, Int.natAbs_zero]
  rw [Fl.nearest_zero, Fl.word_eq]
  cases Fl.ng b <;> rfl
theorem sub_self_inf {b : Nat} (h : Fl.rg b = 9218868437227405312) : double.sub b b = none := by
  unfold Format.sub
  rw [Fl.read_inf h]
  simp only [Datum.opposite, Datum.sum]
  cases Fl.ng b <;> rfl

theorem nanPick_order (w : World) (a b : Nat) : FloatKind.f64.format.order (nanPick w a b) 0 = none := by
  refine Fl.order_nan_left _ ?_
  unfold nanPick Question.cut Fl.isNaN Fl.rg
  simp only [decide_eq_true_eq, Nat.reducePow, Nat.reduceSub]
  generalize w.tape w.drawn (.nanBits .f64 a b) = t
  have h1 : t / 2 % 4503599627370495 < 4503599627370495 := Nat.mod_lt _ (by omega)
  have h2 : t % 2 < 2 := Nat.mod_lt _ (by omega)
  generalize t / 2 % 4503599627370495 = y at *
  generalize t % 2 = x at *
  omega

theorem conv_top {f : Nat} (hf : f < 4503599627370496) : floatToIntVal .f64 (1075 * 4503599627370496 + f) .u64 = some ((4503599627370496 + f : Nat) : Int) := by
  have e2 : Fl.rg (1075 * 4503599627370496 + f) = 1075 * 4503599627370496 + f := Nat.mod_eq_of_lt (by omega)
  have e3 : Fl.ng (1075 * 4503599627370496 + f) = false := by unfold Fl.ng; simp; omega
  have e4 : Fl.mag (1075 * 4503599627370496 + f) = 4503599627370496 + f := by unfold Fl.mag; rw [if_neg (by omega)]; omega
  have e5 : Fl.plc (1075 * 4503599627370496 + f) = 1074 := by unfold Fl.plc; rw [if_neg (by omega)]; omega
  have hd : FloatKind.f64.decode (1075 * 4503599627370496 + f) = .number false (4503599627370496 + f) 0 := by
    show double.read _ = _
    rw [Fl.read_fin (by rw [e2]; omega), e2, e3, e4, e5]; rfl
  unfold floatToIntVal
  rw [hd]
  have hi : Datum.toInt .zero (.number false (4503599627370496 + f) 0) = some ((4503599627370496 + f : Nat) : Int) := by
    simp only [Datum.toInt, Datum.integral]
    rw [show (-(0 : Int)).toNat = 0 from rfl, Fl.cut0]
    simp [signed]
  rw [hi]
  simp only
  rw [if_pos]
  constructor
  · simp [IntKind.min, IntKind.signed]; omega
  · simp [IntKind.max, IntKind.signed, IntKind.bits]; omega

theorem frxE_bounds {r : Nat} (h0 : r ≠ 0) (h : r < 9218868437227405312) : -1127 ≤ frxE r - 53 ∧ frxE r - 53 ≤ 971 := by
  obtain ⟨n1, n2⟩ := nrm_bounds h0 h
  unfold frxE nrmE
  by_cases g : r < 4503599627370496
  · have hs := nrm_sub h0 g
    have hl : r.log2 < 52 := (Nat.log2_lt h0).2 (by simpa using g)
    rw [if_pos g]; omega
  · rw [if_neg g]; omega

set_option maxHeartbeats 1000000 in
theorem text_nan (b : Nat) (hb : F64 b) (w : World) (hn : Fl.isNaN b = true) :
    Calls Tryd.prog 56 #[.float .f64 b] w fun e w' => e = .returned (.string ⟨(textB b).toArray⟩) ∧ Below w.heap.size w w' := by
  have h1 := ord_ne b b
  rw [feq_self, Bool.not_not] at h1
  have HT := Lib.hid (textB.eq_def b)
  rw [hn] at h1 HT
  cases hg : Fl.ng b
  all_goals
    go_enter Tryd.func56, Tryd.ntmps56
    go_wp2_with (go_at_call 70; refine (signbit_any _ hb _).mono ?_; rintro e w' ⟨rfl, rfl⟩)
    go_ret
    exact ⟨ret_val (by rw [HT.out]; rfl), Below.refl _ _⟩

set_option maxHeartbeats 1000000 in
theorem text_inf (b : Nat) (hb : F64 b) (w : World) (hi : Fl.rg b = 9218868437227405312) :
    Calls Tryd.prog 56 #[.float .f64 b] w fun e w' => e = .returned (.string ⟨(textB b).toArray⟩) ∧ Below w.heap.size w w' := by
  have hn : Fl.isNaN b = false := by unfold Fl.isNaN; rw [hi]; rfl
  have h1 := ord_ne b b
  rw [feq_self, Bool.not_not] at h1
  have HT := Lib.hid (textB.eq_def b)
  rw [hn] at h1 HT
  rw [if_pos hi] at HT
  have hs := fun w => run_float_none (P := Tryd.prog) w .sub 28 b b (.inr (.inl rfl)) (sub_self_inf hi)
  have ho := fun w => nanPick_order w b b
  clear hi hn
  cases hg : Fl.ng b
  all_goals
    rw [hg] at HT
    go_enter Tryd.func56, Tryd.ntmps56
    go_wp2_with (go_at_call 70; refine (signbit_any _ hb _).mono ?_; rintro e w' ⟨rfl, rfl⟩)
    go_ret
    exact ⟨ret_val (by rw [HT.out]; rfl), Below.drew (Below.refl _ _)⟩

set_option maxHeartbeats 1000000 in
theorem text_zero (b : Nat) (hb : F64 b) (w : World) (hi : Fl.rg b = 0) :
    Calls Tryd.prog 56 #[.float .f64 b] w fun e w' => e = .returned (.string ⟨(textB b).toArray⟩) ∧ Below w.heap.size w w' := by
  have hn : Fl.isNaN b = false := by unfold Fl.isNaN; rw [hi]; rfl
  have h1 := ord_ne b b
  rw [feq_self, Bool.not_not] at h1
  have HT := Lib.hid (textB.eq_def b)
  rw [hn] at h1 HT
  rw [hi] at HT
  have hs := fun w => run_float_arith (P := Tryd.prog) w .sub 28 .f64 b b 0 (sub_self_fin (by omega))
  have ho : FloatKind.f64.format.order 0 0 = some .eq := by kernel_rfl
  have hz : FloatKind.f64.format.order b 0 = some .eq := by
    show double.order b 0 = _
    rw [Fl.order_some hn (by decide), Fl.cmp_int]
    have : Fl.K b = 0 := by unfold Fl.K; rw [hi]; simp
    rw [this]; rfl
  clear hi hn
  cases hg : Fl.ng b
  all_goals
    rw [hg] at HT
    go_enter Tryd.func56, Tryd.ntmps56
    go_wp2_with (go_at_call 70; refine (signbit_any _ hb _).mono ?_; rintro e w' ⟨rfl, rfl⟩)
    go_ret
    exact ⟨ret_val (by rw [HT.out]; rfl), Below.refl _ _⟩

theorem dec_len (m : Nat) (h : m < 18446744073709551616) : (Lib.decDigits m).length ≤ 20 := by
  rw [Lib.decDigits_length]
  by_cases h1 : 1 ≤ m
  case neg => rw [show m = 0 by omega, Lib.nDigits_small (by omega)]; omega
  have := Lib.numDigits_eq m h1 h; split at this <;> omega
theorem itoa_len (n : Int) (h1 : -9223372036854775808 ≤ n) (h2 : n ≤ 9223372036854775807) : (Lib.itoa n).length ≤ 21 := by
  unfold Lib.itoa; split
  · have := dec_len n.natAbs (by omega); simp; omega
  · have := dec_len n.toNat (by omega); omega
theorem text_join (p a c : List UInt8) : Value.string (({ data := p.toArray } ++ { data := a.toArray } ++ { data := #[112] } : ByteArray) ++ { data := c.toArray }) = .string ⟨(p ++ (a ++ 112 :: c)).toArray⟩ := by
  congr 1
  apply ByteArray.ext
  simp
theorem loop_bounds {f m k : Nat} (h : f < 4503599627370496) (e : 4503599627370496 + f = m * 2 ^ k) : m < 9007199254740992 ∧ (1 ≤ m → k ≤ 52) := by
  have hp := Nat.two_pow_pos k
  constructor
  · have : m ≤ m * 2 ^ k := Nat.le_mul_of_pos_right _ hp
    omega
  · intro hm
    have h2 : 2 ^ k ≤ m * 2 ^ k := Nat.le_mul_of_pos_left _ hm
    have h3 : 2 ^ k < 2 ^ 53 := by omega
    have := (Nat.pow_lt_pow_iff_right (by omega : 1 < 2)).1 h3
    omega
theorem loop_step {f m k : Nat} (h : m % 2 = 0) (e : Hid (4503599627370496 + f = m * 2 ^ k)) : Hid (4503599627370496 + f = (m / 2) * 2 ^ (k + 1)) := by
  show _ = _
  rw [e.out, Nat.pow_succ, Nat.mul_comm (2 ^ k) 2, ← Nat.mul_assoc]
  congr 1; omega
theorem loop_end {f m k : Nat} (h : m % 2 = 1) (e : 4503599627370496 + f = m * 2 ^ k) (hf : f < 4503599627370496) : odd (4503599627370496 + f) = m ∧ tz (4503599627370496 + f) = k := odd_of h e (by omega)

set_option maxHeartbeats 1000000 in
theorem text_num (b : Nat) (hb : F64 b) (w : World) (hE : Env w) (h0 : Fl.rg b ≠ 0) (hi : Fl.rg b < 9218868437227405312) :
    Calls Tryd.prog 56 #[.float .f64 b] w fun e w' => e = .returned (.string ⟨(textB b).toArray⟩) ∧ Below w.heap.size w w' := by
  have hn : Fl.isNaN b = false := by unfold Fl.isNaN; simp; omega
  have h1 := ord_ne b b
  rw [feq_self, Bool.not_not] at h1
  have HT := Lib.hid (textB.eq_def b)
  rw [hn] at h1 HT
  rw [if_neg (show Fl.rg b ≠ 9218868437227405312 by omega), if_neg h0] at HT
  have hs := fun w => run_float_arith (P := Tryd.prog) w .sub 28 .f64 b b 0 (sub_self_fin (by omega))
  have ho : FloatKind.f64.format.order 0 0 = some .eq := by kernel_rfl
  have hz : ∃ o, FloatKind.f64.format.order b 0 = some o ∧ (some o == some .eq) = false := by
    have : FloatKind.f64.format.order b 0 = some (compare (Fl.K b) 0) := by
      show double.order b 0 = _
      rw [Fl.order_some hn (by decide)]; rfl
    rw [this, Fl.cmp_int]
    have : Fl.K b ≠ 0 := by unfold Fl.K; split <;> omega
    by_cases g : Fl.K b < 0
    · rw [if_pos g]; exact ⟨_, rfl, rfl⟩
    · rw [if_neg g, if_neg this]; exact ⟨_, rfl, rfl⟩
  obtain ⟨o, hz, hz2⟩ := hz
  have HA := Lib.hid (abs_any b hb)
  have HG := Lib.hid (signbit_any b hb)
  have HX := Lib.hid (frexp_any (Fl.rg b) h0 hi)
  obtain ⟨f1, f2⟩ := frx_bounds (Fl.rg b)
  have hL := ldexp_any (frx (Fl.rg b)) (by omega) (by omega) 53 (by omega) (by omega)
  rw [show frx (Fl.rg b) = 1022 * 4503599627370496 + nrm (Fl.rg b) % 4503599627370496 from rfl, ldx_top (Nat.mod_lt _ (by omega))] at hL
  have HL := Lib.hid hL
  have hcv := fun w => run_convert_float_int (P := Tryd.prog) w 28 37 .f64 .u64 _ _ (by rw [Tryd.underlying28]; rfl) Tryd.underlying37 (conv_top (f := nrm (Fl.rg b) % 4503599627370496) (Nat.mod_lt _ (by omega)))
  rw [show frx (Fl.rg b) = 1022 * 4503599627370496 + nrm (Fl.rg b) % 4503599627370496 from rfl] at HX
  obtain ⟨e1, e2⟩ := frxE_bounds h0 hi
  have HN := Lib.hid (txt_n53 h0 hi)
  have HNv := Lib.hid (show n53 (Fl.rg b) = 4503599627370496 + nrm (Fl.rg b) % 4503599627370496 from rfl)
  have hfm : nrm (Fl.rg b) % 4503599627370496 < 4503599627370496 := Nat.mod_lt _ (by omega)
  clear f1 f2 hL hi hn h0
  generalize txtN (Fl.rg b) = tn at *
  generalize txtE (Fl.rg b) = te at *
  generalize n53 (Fl.rg b) = n at *
  generalize frxE (Fl.rg b) = fe at *
  generalize nrm (Fl.rg b) % 4503599627370496 = f at *
  generalize 1022 * 4503599627370496 + f = x1 at *
  generalize 1075 * 4503599627370496 + f = x2 at *
  cases hg : Fl.ng b
  all_goals
    rw [hg] at HT
    go_enter Tryd.func56, Tryd.ntmps56
    go_wp2_with (first
      | (go_at_call 70; refine (HG.out _).mono ?_; rintro e w' ⟨rfl, rfl⟩)
      | (go_at_call 72; refine (HA.out _).mono ?_; rintro e w' ⟨rfl, rfl⟩)
      | (go_at_call 71; refine (HX.out _).mono ?_; rintro e w' ⟨rfl, rfl⟩)
      | (go_at_call 55; refine (HL.out _).mono ?_; rintro e w' ⟨rfl, rfl⟩))
    go_loop [5, 6] (fun e n => ∃ k m : Nat, 1 ≤ m ∧ Hid (4503599627370496 + f = m * 2 ^ k) ∧ e = .int .i64 (fe - 53 + k) ∧ n = .int .u64 m) (fun _ n => (intOf n).toNat)
    case atStart => exact ⟨0, 4503599627370496 + f, by omega, by show _ = _; simp, by congr 1; omega, by congr 1⟩
    case round =>
      obtain ⟨k, m, hm1, hkm, rfl, rfl⟩ := hrel
      obtain ⟨hb1, hb2⟩ := loop_bounds (by omega) hkm.out
      by_cases hp : m % 2 = 0
      · have ht : ((m : Int) % 2 == 0) = true := by simp; omega
        have HP := Lib.hid hp; clear hp
        go_wp2
        go_round
        case rel => exact ⟨k + 1, m / 2, by have := HP.out; omega, loop_step HP.out hkm, by go_num, by congr 1⟩
        case measure => simp [intOf]; omega
      · have ht : ((m : Int) % 2 == 0) = false := by simp; omega
        have HP := Lib.hid hp; clear hp
        have hfin := loop_end (show m % 2 = 1 by have := HP.out; omega) hkm.out (by omega)
        rw [← HNv.out] at hfin
        have hN := HN.out
        rw [hfin.1, hfin.2] at hN
        obtain ⟨hN1, hN2⟩ := hN
        have HN1 := Lib.hid hN1; clear hN1
        have HN2 := Lib.hid hN2; clear hN2 hfin
        go_wp2_with fail
        refine (formatUint_any m (by omega) _ hE).mono ?_; rintro e w1 ⟨rfl, hb1'⟩
        have hlen := dec_len m (by omega)
        have hlen2 := itoa_len (fe - 53 + k) (by omega) (by omega)
        go_wp2_with fail
        refine (itoa_any (fe - 53 + k) (by omega) (by omega) _ (hE.below hb1')).mono ?_; rintro e w2 ⟨rfl, hb2'⟩
        go_wp2_with fail
        go_ret
        exact ⟨ret_val (by rw [HT.out, ← HN1.out, ← HN2.out]; exact text_join _ _ _), below_tr hb1' hb2'⟩

theorem text_any (b : Nat) (hb : F64 b) (w : World) (hE : Env w) :
    Calls Tryd.prog 56 #[.float .f64 b] w fun e w' => e = .returned (.string ⟨(textB b).toArray⟩) ∧ Below w.heap.size w w' := by
  by_cases hn : Fl.isNaN b = true
  · exact text_nan b hb w hn
  · have := nan_lt (by simpa using hn)
    by_cases h0 : Fl.rg b = 0
    · exact text_zero b hb w h0
    · by_cases hi : Fl.rg b = 9218868437227405312
      · exact text_inf b hb w hi
      · exact text_num b hb w hE h0 (by omega)
end Go.Proofs.YtkcbkfflabkcgaaDoor
