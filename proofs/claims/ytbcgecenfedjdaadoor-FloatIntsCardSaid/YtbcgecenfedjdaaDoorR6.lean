/-
  The walk of the references' ToInt.
-/
import Derived.Test.YtbcgecenfedjdaaDoorR1
import Derived.Test.YtbcgecenfedjdaaDoorFi
namespace Go.Proofs.YtbcgecenfedjdaaDoor
open Go.RowKit Ieee

/-- an odd number and a power, cut to a whole number -/
def wh (m : Nat) (e : Int) : Nat := if 0 ≤ e then m * 2 ^ e.toNat else m / 2 ^ (-e).toNat
theorem whole_parts {r : Nat} (h : r < 9218868437227405312) : wholeM r = wh (partsN r) (partsE r) := by
  unfold partsN partsE
  by_cases h0 : r = 0
  · subst h0
    rw [if_pos rfl, if_pos rfl]
    unfold wholeM wh; rw [Fl.M_zero, Nat.zero_div, if_pos (by omega)]; rfl
  · rw [if_neg h0, if_neg h0]
    obtain ⟨_, _, _, he⟩ := txt_bounds h0 h
    have e1 : txtE r = ((tz (Fl.mag r) + Fl.plc r : Nat) : Int) - 1074 := by unfold txtE; omega
    have e2 : Fl.M r = txtN r * 2 ^ (tz (Fl.mag r) + Fl.plc r) := by unfold Fl.M; rw [Nat.pow_add, ← Nat.mul_assoc, he]
    unfold wholeM wh
    rw [e1, e2]
    generalize tz (Fl.mag r) + Fl.plc r = s
    by_cases hs : 1074 ≤ s
    · have q : ((s : Int) - 1074).toNat = s - 1074 := by omega
      rw [if_pos (by omega), top_over hs, ← Nat.mul_assoc, Nat.mul_div_cancel _ top_pos, q]
    · have q : (-((s : Int) - 1074)).toNat = 1074 - s := by omega
      rw [if_neg (by omega), top_split (show s ≤ 1074 by omega), Nat.mul_div_mul_right _ _ (Nat.two_pow_pos s), q]

theorem wh_step {m j x : Nat} (h : Hid (x = m / 2 ^ j)) : Hid (x / 2 = m / 2 ^ (j + 1)) := by
  show _ = _
  rw [h.out, Nat.div_div_eq_div_mul, Nat.pow_succ]
theorem wh_end {m j x : Nat} {e : Int} (h : x = m / 2 ^ j) (hj : (j : Int) ≤ -e) (h2 : x = 0 ∨ (j : Int) = -e) : wh m e = x := by
  unfold wh
  by_cases he : 0 ≤ e
  · have : e = 0 := by omega
    subst this
    have : j = 0 := by omega
    subst this
    rw [if_pos (by omega), h]; simp
  · rw [if_neg he]
    rcases h2 with h2 | h2
    · rw [h2] at h ⊢
      have : (-e).toNat = j + ((-e).toNat - j) := by omega
      rw [this, Nat.pow_add, ← Nat.div_div_eq_div_mul, ← h, Nat.zero_div]
    · rw [h, show (-e).toNat = j by omega]
theorem wh_up {m i x : Nat} (h : Hid (x = m * 2 ^ i)) : Hid (x * 2 = m * 2 ^ (i + 1)) := by
  show _ = _
  rw [h.out, Nat.pow_succ, Nat.mul_assoc]
theorem wh_top {m i x : Nat} {e : Int} (h : x = m * 2 ^ i) (hi : (i : Int) = e) : wh m e = x := by
  unfold wh; rw [if_pos (by omega), h, show e.toNat = i by omega]
theorem wh_over {m i x : Nat} {e : Int} (h : x = m * 2 ^ i) (hi : (i : Int) < e) : 2 * x ≤ wh m e := by
  unfold wh; rw [if_pos (by omega), h, show e.toNat = i + 1 + (e.toNat - i - 1) by omega, Nat.pow_add, Nat.pow_succ]
  have := Nat.two_pow_pos (e.toNat - i - 1)
  have h3 : m * (2 ^ i * 2) ≤ m * (2 ^ i * 2) * 2 ^ (e.toNat - i - 1) := Nat.le_mul_of_pos_right _ this
  calc 2 * (m * 2 ^ i) = m * (2 ^ i * 2) := by rw [Nat.mul_comm 2, Nat.mul_assoc]
    _ ≤ m * (2 ^ i * 2) * 2 ^ (e.toNat - i - 1) := h3
    _ = m * (2 ^ i * 2 * 2 ^ (e.toNat - i - 1)) := Nat.mul_assoc _ _ _

/-- what ToInt gives of a finite one, by its sign and its magnitude's whole number -/
def tiV (neg : Bool) (x : Nat) : Int := if neg then (if x ≤ 9223372036854775808 then -(x : Int) else 0) else (if x < 9223372036854775808 then (x : Int) else 0)
def tiE (neg : Bool) (x : Nat) : Int := if neg then (if x ≤ 9223372036854775808 then 0 else 3) else (if x < 9223372036854775808 then 0 else 3)
theorem toInt_parts {b : Nat} (h : Fl.rg b < 9218868437227405312) : toIntV b = tiV (Fl.ng b) (wh (partsN (Fl.rg b)) (partsE (Fl.rg b))) ∧ toIntE b = tiE (Fl.ng b) (wh (partsN (Fl.rg b)) (partsE (Fl.rg b))) := by
  have e : wholeI b = if Fl.ng b then -(wh (partsN (Fl.rg b)) (partsE (Fl.rg b)) : Int) else wh (partsN (Fl.rg b)) (partsE (Fl.rg b)) := by unfold wholeI; rw [whole_parts h]
  unfold toIntV toIntE tiV tiE
  rw [e]
  generalize wh (partsN (Fl.rg b)) (partsE (Fl.rg b)) = x
  cases Fl.ng b
  · simp only [Bool.false_eq_true, if_false]
    by_cases hx : x < 9223372036854775808
    · refine ⟨?_, ?_⟩ <;> rw [if_pos ⟨h, by omega, by omega⟩, if_pos hx]
    · refine ⟨?_, ?_⟩ <;> rw [if_neg (fun g => hx (by omega)), if_neg hx]
  · simp only [if_true]
    by_cases hx : x ≤ 9223372036854775808
    · refine ⟨?_, ?_⟩ <;> rw [if_pos ⟨h, by omega, by omega⟩, if_pos hx]
    · refine ⟨?_, ?_⟩ <;> rw [if_neg (fun g => hx (by omega)), if_neg hx]

theorem ti_over (neg : Bool) (x : Nat) (h : 9223372036854775808 < x ∨ (neg = false ∧ 9223372036854775808 ≤ x)) : Value.tuple #[.int .i64 0, .int .i64 3] = .tuple #[.int .i64 (tiV neg x), .int .i64 (tiE neg x)] := by
  unfold tiV tiE
  cases neg
  · simp only [Bool.false_eq_true, if_false]
    rw [if_neg (by omega), if_neg (by omega)]
  · simp only [if_true]
    rcases h with h | ⟨h, _⟩
    · rw [if_neg (by omega), if_neg (by omega)]
    · cases h
theorem ti_false (x : Nat) (h : x < 9223372036854775808) : Value.tuple #[.int .i64 (x : Int), .int .i64 0] = .tuple #[.int .i64 (tiV false x), .int .i64 (tiE false x)] := by
  unfold tiV tiE
  simp only [Bool.false_eq_true, if_false]
  rw [if_pos h, if_pos h]
theorem ti_true (x : Nat) (h : x ≤ 9223372036854775808) : Value.tuple #[.int .i64 (-(x : Int)), .int .i64 0] = .tuple #[.int .i64 (tiV true x), .int .i64 (tiE true x)] := by
  unfold tiV tiE
  simp only [if_true]
  rw [if_pos h, if_pos h]

set_option maxRecDepth 100000 in
set_option maxHeartbeats 1000000 in
theorem rtoInt_odd (b : Nat) (hf : ¬ Fl.rg b < 9218868437227405312) (w : World) :
    Calls Tryd.prog 26 #[.float .f64 b] w fun e w' => e = .returned (.tuple #[.int .i64 (toIntV b), .int .i64 (toIntE b)]) ∧ w = w' := by
  have HV := Lib.hid (show toIntV b = 0 from by unfold toIntV; rw [if_neg (fun h => hf h.1)])
  have HE := Lib.hid (show toIntE b = 3 from by unfold toIntE; rw [if_neg (fun h => hf h.1)])
  have hbr := bits_run
  have HN := Lib.hid (rnan_any b)
  by_cases hn : Fl.isNaN b = true
  · rw [hn] at HN
    have ht : ∀ x : Bool, (true || x) = true := fun _ => rfl
    clear hf
    go_enter Tryd.func26, Tryd.ntmps26
    go_wp2_with fail
    refine (HN.out _).mono ?_; rintro e w' ⟨rfl, rfl⟩
    go_wp2_with fail
    go_ret2
    exact ⟨ret_val (by rw [HV.out, HE.out]; rfl), rfl⟩
  · have hn' : Fl.isNaN b = false := by simpa using hn
    rw [hn'] at HN
    have hinf : Fl.rg b = 9218868437227405312 := by have := nan_lt hn'; omega
    have ht : (IntKind.u64.wrap ((b : Int) * 2) == 18437736874454810624) = true := by rw [bits_shl]; simp; omega
    clear hf hn hn' hinf
    go_enter Tryd.func26, Tryd.ntmps26
    go_wp2_with fail
    refine (HN.out _).mono ?_; rintro e w' ⟨rfl, rfl⟩
    go_wp2_with fail
    go_ret2
    exact ⟨ret_val (by rw [HV.out, HE.out]; rfl), rfl⟩

set_option maxRecDepth 100000 in
set_option maxHeartbeats 4000000 in
theorem rtoInt_low (b : Nat) (hb : F64 b) (hf : Fl.rg b < 9218868437227405312) (hlow : partsE (Fl.rg b) ≤ 0) (w : World) :
    Calls Tryd.prog 26 #[.float .f64 b] w fun e w' => e = .returned (.tuple #[.int .i64 (toIntV b), .int .i64 (toIntE b)]) ∧ w = w' := by
  obtain ⟨hv, he⟩ := toInt_parts hf
  have HV := Lib.hid hv
  have HE := Lib.hid he
  have hbr := bits_run
  have HN := rnan_any b
  rw [show Fl.isNaN b = false from by unfold Fl.isNaN; simp; omega] at HN
  have HN := Lib.hid HN
  have HP := Lib.hid (rparts_any b hf)
  have HM := Lib.hid (rminus_any b hb)
  obtain ⟨p1, p2, p3⟩ := parts_bounds hf
  have ht : (IntKind.u64.wrap ((b : Int) * 2) == 18437736874454810624) = false := by rw [bits_shl]; simp; omega
  generalize partsN (Fl.rg b) = m at *
  generalize partsE (Fl.rg b) = e at *
  generalize Fl.ng b = neg at *
  clear hv he hf p3
  go_enter Tryd.func26, Tryd.ntmps26
  go_wp2_with fail
  refine (HN.out _).mono ?_; rintro en w' ⟨rfl, rfl⟩
  go_wp2_with fail
  refine (HP.out _).mono ?_; rintro en w' ⟨rfl, rfl⟩
  go_wp2_with fail
  go_loop [4, 5] (fun mv ev => ∃ j x : Nat, x ≤ m ∧ Hid (x = m / 2 ^ j) ∧ (j : Int) ≤ -e ∧ mv = .int .u64 x ∧ ev = .int .i64 (e + j)) (fun _ ev => (-(intOf ev)).toNat)
  case atStart => exact ⟨0, m, Nat.le_refl _, by show _ = _; simp, by omega, rfl, by congr 1; omega⟩
  case round =>
    obtain ⟨j, x, hx, hxe, hj, rfl, rfl⟩ := hrel
    by_cases hgo : 0 < x ∧ (j : Int) < -e
    · have k1 : decide (e + (j : Int) < 0) = true := by simp; omega
      have k2 : decide ((0 : Int) < (x : Int)) = true := by simp; omega
      obtain ⟨g1, g2⟩ := hgo
      go_wp2
      go_round
      case rel => exact ⟨j + 1, x / 2, by omega, wh_step hxe, by omega, by congr 1, by go_num⟩
      case measure => simp [intOf]; omega
    · have hwh := wh_end hxe.out hj (by omega)
      rw [hwh] at HV HE
      have hx63 : x < 9007199254740992 := by omega
      have k3 : decide ((0 : Int) < e + (j : Int)) = false := by simp; omega
      have k4 : decide ((9223372036854775808 : Int) < (x : Int)) = false := by simp; omega
      have k5 : decide ((9223372036854775808 : Int) ≤ (x : Int)) = false := by simp; omega
      have k6 : IntKind.i64.wrap (IntKind.u64.wrap (-(x : Int))) = -(x : Int) := by rw [IntKind.wrap_u64, IntKind.wrap_i64]; omega
      have hgo2 : x = 0 ∨ (j : Int) = -e := by omega
      clear hgo hwh hxe
      cases neg
      · by_cases he0 : e + (j : Int) < 0
        · have k7 : ¬ 0 < x := by omega
          have k8 : decide (e + (j : Int) < 0) = true := by simp; omega
          clear he0 hgo2
          go_wp2
          go_loop [4, 6] (fun mv iv => mv = .int .u64 x ∧ iv = .int .i64 0) (fun _ _ => 0)
          case atStart => exact ⟨rfl, rfl⟩
          case round =>
            obtain ⟨rfl, rfl⟩ := hrel
            go_wp2_with fail
            refine (HM.out _).mono ?_; rintro en w' ⟨rfl, rfl⟩
            go_wp2_with fail
            go_ret2
            exact ⟨ret_val (by rw [HV.out, HE.out]; exact ti_false x (by omega)), rfl⟩
        · have k8 : decide (e + (j : Int) < 0) = false := by simp; omega
          clear he0 hgo2
          go_wp2
          go_loop [4, 6] (fun mv iv => mv = .int .u64 x ∧ iv = .int .i64 0) (fun _ _ => 0)
          case atStart => exact ⟨rfl, rfl⟩
          case round =>
            obtain ⟨rfl, rfl⟩ := hrel
            go_wp2_with fail
            refine (HM.out _).mono ?_; rintro en w' ⟨rfl, rfl⟩
            go_wp2_with fail
            go_ret2
            exact ⟨ret_val (by rw [HV.out, HE.out]; exact ti_false x (by omega)), rfl⟩
      · by_cases he0 : e + (j : Int) < 0
        · have k7 : ¬ 0 < x := by omega
          have k8 : decide (e + (j : Int) < 0) = true := by simp; omega
          clear he0 hgo2
          go_wp2
          go_loop [4, 6] (fun mv iv => mv = .int .u64 x ∧ iv = .int .i64 0) (fun _ _ => 0)
          case atStart => exact ⟨rfl, rfl⟩
          case round =>
            obtain ⟨rfl, rfl⟩ := hrel
            go_wp2_with fail
            refine (HM.out _).mono ?_; rintro en w' ⟨rfl, rfl⟩
            go_wp2_with fail
            go_ret2
            exact ⟨ret_val (by rw [HV.out, HE.out]; exact ti_true x (by omega)), rfl⟩
        · have k8 : decide (e + (j : Int) < 0) = false := by simp; omega
          clear he0 hgo2
          go_wp2
          go_loop [4, 6] (fun mv iv => mv = .int .u64 x ∧ iv = .int .i64 0) (fun _ _ => 0)
          case atStart => exact ⟨rfl, rfl⟩
          case round =>
            obtain ⟨rfl, rfl⟩ := hrel
            go_wp2_with fail
            refine (HM.out _).mono ?_; rintro en w' ⟨rfl, rfl⟩
            go_wp2_with fail
            go_ret2
            exact ⟨ret_val (by rw [HV.out, HE.out]; exact ti_true x (by omega)), rfl⟩

set_option maxRecDepth 100000 in
set_option maxHeartbeats 4000000 in
theorem rtoInt_high (b : Nat) (hb : F64 b) (hf : Fl.rg b < 9218868437227405312) (hhigh : 0 < partsE (Fl.rg b)) (w : World) :
    Calls Tryd.prog 26 #[.float .f64 b] w fun e w' => e = .returned (.tuple #[.int .i64 (toIntV b), .int .i64 (toIntE b)]) ∧ w = w' := by
  obtain ⟨hv, he⟩ := toInt_parts hf
  have HV := Lib.hid hv
  have HE := Lib.hid he
  have hbr := bits_run
  have HN := rnan_any b
  rw [show Fl.isNaN b = false from by unfold Fl.isNaN; simp; omega] at HN
  have HN := Lib.hid HN
  have HP := Lib.hid (rparts_any b hf)
  have HM := Lib.hid (rminus_any b hb)
  obtain ⟨p1, p2, p3⟩ := parts_bounds hf
  have hm : 1 ≤ partsN (Fl.rg b) := by
    rcases Nat.eq_zero_or_pos (partsN (Fl.rg b)) with h | h
    · exfalso
      unfold partsN at h
      unfold partsE at hhigh
      by_cases h0 : Fl.rg b = 0
      · rw [if_pos h0] at hhigh; omega
      · rw [if_neg h0] at h
        have := (txt_bounds h0 hf).1
        omega
    · exact h
  have ht : (IntKind.u64.wrap ((b : Int) * 2) == 18437736874454810624) = false := by rw [bits_shl]; simp; omega
  generalize partsN (Fl.rg b) = m at *
  generalize partsE (Fl.rg b) = e at *
  generalize Fl.ng b = neg at *
  clear hv he hf
  have k0 : decide (e < 0) = false := by simp; omega
  go_enter Tryd.func26, Tryd.ntmps26
  go_wp2_with fail
  refine (HN.out _).mono ?_; rintro en w' ⟨rfl, rfl⟩
  go_wp2_with fail
  refine (HP.out _).mono ?_; rintro en w' ⟨rfl, rfl⟩
  go_wp2_with fail
  go_loop [4, 5] (fun mv ev => mv = .int .u64 m ∧ ev = .int .i64 e) (fun _ _ => 0)
  case atStart => exact ⟨rfl, rfl⟩
  case round =>
    obtain ⟨rfl, rfl⟩ := hrel
    go_wp2
    go_loop [4, 6] (fun mv iv => ∃ i x : Nat, x ≤ 9223372036854775808 ∧ 0 < x ∧ Hid (x = m * 2 ^ i) ∧ (i : Int) ≤ e ∧ mv = .int .u64 x ∧ iv = .int .i64 i) (fun _ iv => (e - intOf iv).toNat)
    case atStart => exact ⟨0, m, by omega, by omega, by show _ = _; simp, by omega, rfl, rfl⟩
    case round =>
      obtain ⟨i, x, hx, hx0, hxe, hi, rfl, rfl⟩ := hrel
      by_cases hgo : (i : Int) < e
      · have k1 : decide ((i : Int) < e) = true := by simp; omega
        by_cases hbig : 4611686018427387904 < x
        · have hov := wh_over hxe.out hgo
          have k2 : decide ((4611686018427387904 : Int) < (x : Int)) = true := by simp; omega
          have HO := ti_over neg (wh m e) (by omega)
          clear hgo hbig hov hxe
          go_wp2
          go_ret2
          exact ⟨ret_val (by rw [HV.out, HE.out]; exact HO), rfl⟩
        · have k2 : decide ((4611686018427387904 : Int) < (x : Int)) = false := by simp; omega
          go_wp2
          go_round
          case rel => exact ⟨i + 1, x * 2, by omega, by omega, wh_up hxe, by omega, by go_num, by go_num⟩
          case measure => simp [intOf]; omega
      · have hwh := wh_top hxe.out (show (i : Int) = e by omega)
        rw [hwh] at HV HE
        have k1 : decide ((i : Int) < e) = false := by simp; omega
        have k4 : decide ((9223372036854775808 : Int) < (x : Int)) = false := by simp; omega
        clear hgo hwh hxe
        cases neg
        · by_cases hlt : x < 9223372036854775808
          · have k5 : decide ((9223372036854775808 : Int) ≤ (x : Int)) = false := by simp; omega
            go_wp2_with fail
            refine (HM.out _).mono ?_; rintro en w' ⟨rfl, rfl⟩
            go_wp2_with fail
            go_ret2
            exact ⟨ret_val (by rw [HV.out, HE.out]; exact ti_false x hlt), rfl⟩
          · have k5 : decide ((9223372036854775808 : Int) ≤ (x : Int)) = true := by simp; omega
            have HO := ti_over false x (.inr ⟨rfl, by omega⟩)
            go_wp2_with fail
            refine (HM.out _).mono ?_; rintro en w' ⟨rfl, rfl⟩
            go_wp2_with fail
            go_ret2
            exact ⟨ret_val (by rw [HV.out, HE.out]; exact HO), rfl⟩
        · have k6 : IntKind.i64.wrap (IntKind.u64.wrap (-(x : Int))) = -(x : Int) := by rw [IntKind.wrap_u64, IntKind.wrap_i64]; omega
          go_wp2_with fail
          refine (HM.out _).mono ?_; rintro en w' ⟨rfl, rfl⟩
          go_wp2_with fail
          go_ret2
          exact ⟨ret_val (by rw [HV.out, HE.out]; exact ti_true x hx), rfl⟩

theorem rtoInt_any (b : Nat) (hb : F64 b) (w : World) :
    Calls Tryd.prog 26 #[.float .f64 b] w fun e w' => e = .returned (.tuple #[.int .i64 (toIntV b), .int .i64 (toIntE b)]) ∧ w = w' := by
  by_cases hf : Fl.rg b < 9218868437227405312
  · by_cases hl : partsE (Fl.rg b) ≤ 0
    · exact rtoInt_low b hb hf hl w
    · exact rtoInt_high b hb hf (by omega) w
  · exact rtoInt_odd b hf w
end Go.Proofs.YtbcgecenfedjdaaDoor
