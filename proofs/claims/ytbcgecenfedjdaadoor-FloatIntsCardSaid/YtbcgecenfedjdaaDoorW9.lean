/-
  The walk of the program's ToInt: any float's whole number, or none.
-/
import Derived.Test.YtbcgecenfedjdaaDoorW2
import Derived.Test.YtbcgecenfedjdaaDoorFi
namespace Go.Proofs.YtbcgecenfedjdaaDoor
open Go.RowKit Ieee

/-- what the model makes of math.archTrunc, by what is read of the float; q: what it asks where a NaN signals -/
def archBody (q : Question) (b : Nat) (d : Datum) : Sem Value :=
  match d with
  | .nan s t =>
    if FloatKind.f64.format.quiet t = t then pure (.float .f64 b) else do
    let kept ← choose q
    pure (.float .f64 (if kept == 1 then b else FloatKind.f64.encode (.nan s (FloatKind.f64.format.quiet t))))
  | d => pure (.float .f64 (FloatKind.f64.encode (d.integral .zero)))
theorem arch_shape : ∃ q : Question, ∀ b, Extern.MathFloor.toIntegral "math.archTrunc" .zero #[.float .f64 b] = archBody q b (FloatKind.f64.decode b) :=
  Exists.intro _ (fun _ => rfl)
theorem arch_run : ∃ q : Question, ∀ (b : Nat) (w : World), (callFunc 73 #[.float .f64 b]).run Tryd.prog w = ((archBody q b (FloatKind.f64.decode b)).run Tryd.prog w).andThen fun v w' => .ok (.value v) w' := by
  obtain ⟨q, hq⟩ := arch_shape
  refine ⟨q, fun b w => ?_⟩
  rw [← hq]
  exact run_callFunc_extern Tryd.func73 (by kernel_rfl) (by kernel_rfl) (by kernel_rfl) (e := Extern.MathFloor.toIntegral "math.archTrunc" .zero) (by kernel_rfl) _ w

theorem arch_fin {b : Nat} (h : Fl.rg b < 9218868437227405312) (w : World) : (callFunc 73 #[.float .f64 b]).run Tryd.prog w = .ok (.value (.float .f64 (truncB b))) w := by
  obtain ⟨q, hr⟩ := arch_run
  have h1 : FloatKind.f64.decode b = .number (Fl.ng b) (Fl.mag (Fl.rg b)) (-1074 + (Fl.plc (Fl.rg b) : Int)) := Fl.read_fin h
  have h2 : (Datum.number (Fl.ng b) (Fl.mag (Fl.rg b)) (-1074 + (Fl.plc (Fl.rg b) : Int))).integral .zero = .number (Fl.ng b) (wholeM (Fl.rg b)) 0 := by
    rw [← Fl.read_fin h]; exact integral_fin h
  rw [hr, h1]
  simp only [archBody, h2]
  rfl
theorem arch_inf {b : Nat} (hb : F64 b) (h : Fl.rg b = 9218868437227405312) (w : World) : (callFunc 73 #[.float .f64 b]).run Tryd.prog w = .ok (.value (.float .f64 b)) w := by
  obtain ⟨q, hr⟩ := arch_run
  have h1 : FloatKind.f64.decode b = .infinity (Fl.ng b) := Fl.read_inf h
  have h2 : FloatKind.f64.encode (.infinity (Fl.ng b)) = b := by
    have := Fl.word_of hb
    rw [h] at this; exact this
  rw [hr, h1]
  simp only [archBody, Datum.integral, h2]
  rfl
/-- what package math makes of a NaN that signals, where it makes it quiet -/
theorem quiet_nan (s : Bool) {t : Nat} (h0 : 0 < t) (h : t < 4503599627370496) : Fl.isNaN (FloatKind.f64.encode (.nan s (FloatKind.f64.format.quiet t))) = true := by
  show Fl.isNaN (double.write (.nan s (t ||| 2 ^ 51))) = true
  have hlt : t ||| 2 ^ 51 < 2 ^ 52 := Nat.or_lt_two_pow (by omega) (by omega)
  have hge : t ≤ t ||| 2 ^ 51 := Nat.left_le_or
  generalize t ||| 2 ^ 51 = q at *
  show Fl.isNaN (double.word s (double.infRung + q % double.binade)) = true
  rw [Fl.iR, Fl.bW]
  unfold Fl.isNaN
  rw [Fl.word_rg s (by omega)]
  simp; omega
theorem arch_nan {b : Nat} (h : Fl.isNaN b = true) (w : World) : ∃ d, Fl.isNaN d = true ∧
    ((callFunc 73 #[.float .f64 b]).run Tryd.prog w = .ok (.value (.float .f64 d)) w ∨ (callFunc 73 #[.float .f64 b]).run Tryd.prog w = .ok (.value (.float .f64 d)) w.drew) := by
  obtain ⟨q, hr⟩ := arch_run
  have hn := h
  unfold Fl.isNaN at hn; simp only [decide_eq_true_eq] at hn
  have h1 : FloatKind.f64.decode b = .nan (Fl.ng b) (Fl.rg b - 9218868437227405312) := Fl.read_nan hn
  have hl := rg_lt b
  by_cases hq : FloatKind.f64.format.quiet (Fl.rg b - 9218868437227405312) = Fl.rg b - 9218868437227405312
  · refine ⟨b, h, .inl ?_⟩
    rw [hr, h1]
    simp only [archBody]
    rw [if_pos hq]; rfl
  · have hc := quiet_nan (Fl.ng b) (t := Fl.rg b - 9218868437227405312) (by omega) (by omega)
    have hrun : ∀ (k : Nat), Fl.isNaN (if (k == 1) = true then b else FloatKind.f64.encode (.nan (Fl.ng b) (FloatKind.f64.format.quiet (Fl.rg b - 9218868437227405312)))) = true := by
      intro k; split
      · exact h
      · exact hc
    cases hf : q.forced
    · refine ⟨_, hrun (q.cut (w.tape w.drawn q)), .inr ?_⟩
      rw [hr, h1]
      simp only [archBody]
      rw [if_neg hq]
      simp [hf]
    · refine ⟨_, hrun 0, .inl ?_⟩
      rw [hr, h1]
      simp only [archBody]
      rw [if_neg hq]
      simp [hf]

/-- Trunc: the whole number; a NaN stays one -/
def TruncEnds (b : Nat) (w : World) (e : Ending) (w' : World) : Prop :=
  ∃ d n, e = .returned (.float .f64 d) ∧ w' = w.drewN n ∧ (Fl.rg b < 9218868437227405312 → d = truncB b) ∧ (Fl.rg b = 9218868437227405312 → d = b) ∧ (Fl.isNaN b = true → Fl.isNaN d = true)

set_option maxRecDepth 100000 in
set_option maxHeartbeats 400000 in
theorem trunc_any (b : Nat) (hb : F64 b) (w : World) : Calls Tryd.prog 61 #[.float .f64 b] w (TruncEnds b w) := by
  by_cases hn : Fl.isNaN b = true
  · have hgt : 9218868437227405312 < Fl.rg b := by unfold Fl.isNaN at hn; simpa using hn
    have fin : ∀ d n, Fl.isNaN d = true → TruncEnds b w (.returned (.float .f64 d)) (w.drewN n) := fun d n hd => ⟨d, n, rfl, rfl, fun h => by omega, fun h => by omega, fun _ => hd⟩
    have FIN := Lib.hid fin; clear fin hgt
    obtain ⟨d, hd, h⟩ := arch_nan hn w
    rcases h with h | h
    · go_enter Tryd.func61, Tryd.ntmps61
      go_wp2
      go_ret
      exact FIN.out d 0 hd
    · go_enter Tryd.func61, Tryd.ntmps61
      go_wp2
      go_ret
      exact FIN.out d 1 hd
  · have hle := nan_lt (by simpa using hn)
    have hn' : Fl.isNaN b = false := by simpa using hn
    by_cases hi : Fl.rg b = 9218868437227405312
    · have h := arch_inf hb hi
      have fin : TruncEnds b w (.returned (.float .f64 b)) (w.drewN 0) := ⟨b, 0, rfl, rfl, fun h => by omega, fun _ => rfl, fun h => by rw [hn'] at h; cases h⟩
      have FIN := Lib.hid fin; clear fin hle hi hn
      go_enter Tryd.func61, Tryd.ntmps61
      go_wp2
      go_ret
      exact FIN.out
    · have h := arch_fin (b := b) (by omega)
      have fin : TruncEnds b w (.returned (.float .f64 (truncB b))) (w.drewN 0) := ⟨truncB b, 0, rfl, rfl, fun _ => rfl, fun h => absurd h hi, fun h => by rw [hn'] at h; cases h⟩
      have FIN := Lib.hid fin; clear fin hle hi hn
      go_enter Tryd.func61, Tryd.ntmps61
      go_wp2
      go_ret
      exact FIN.out

set_option maxRecDepth 100000 in
set_option maxHeartbeats 1000000 in
theorem toInt_any (b : Nat) (hb : F64 b) (w : World) : Calls Tryd.prog 25 #[.float .f64 b] w fun e w' => e = .returned (.tuple #[.int .i64 (toIntV b), .int .i64 (toIntE b)]) ∧ ∃ n, w' = w.drewN n := by
  have HV := Lib.hid (toIntV.eq_def b)
  have HE := Lib.hid (toIntE.eq_def b)
  by_cases hf : Fl.rg b < 9218868437227405312
  · have hlo := above_min hf
    have hhi := below_max hf
    have hcv := @conv_trunc b hf
    have HT := Lib.hid (trunc_any b hb)
    generalize htb : truncB b = t at *
    have hlo' : (FloatKind.f64.format.order t 14114281232179134464 == some .gt || FloatKind.f64.format.order t 14114281232179134464 == some .eq) = decide (-9223372036854775808 ≤ wholeI b) := hlo
    have hhi' : (FloatKind.f64.format.order t 4890909195324358656 == some .lt) = decide (wholeI b < 9223372036854775808) := by rw [ord_lt]; exact hhi
    by_cases h1 : -9223372036854775808 ≤ wholeI b
    · by_cases h2 : wholeI b < 9223372036854775808
      · rw [if_pos ⟨hf, h1, h2⟩] at HV HE
        have hc := fun w => run_convert_float_int (P := Tryd.prog) w 22 2 .f64 .i64 t _ (by rw [Tryd.underlying22]; rfl) Tryd.underlying2 (hcv h1 h2)
        rw [decide_eq_true h1] at hlo'
        rw [decide_eq_true h2] at hhi'
        clear hlo hhi hcv h1 h2
        have HF := Lib.hid hf; clear hf
        have HTB := Lib.hid htb; clear htb
        generalize wholeI b = v at *
        go_enter Tryd.func25, Tryd.ntmps25
        go_wp2_with fail
        refine (HT.out _).mono ?_; rintro e w' ⟨d, n, rfl, rfl, hd, _, _⟩
        obtain rfl := (hd HF.out).trans HTB.out
        go_wp2_with fail
        go_ret2
        exact ⟨ret_val (by rw [HV.out, HE.out]; rfl), n, rfl⟩
      · rw [if_neg (by omega)] at HV HE
        rw [decide_eq_true h1] at hlo'
        rw [decide_eq_false h2] at hhi'
        clear hlo hhi hcv h1 h2
        have HF := Lib.hid hf; clear hf
        have HTB := Lib.hid htb; clear htb
        go_enter Tryd.func25, Tryd.ntmps25
        go_wp2_with fail
        refine (HT.out _).mono ?_; rintro e w' ⟨d, n, rfl, rfl, hd, _, _⟩
        obtain rfl := (hd HF.out).trans HTB.out
        go_wp2_with fail
        go_ret2
        exact ⟨ret_val (by rw [HV.out, HE.out]; rfl), n, rfl⟩
    · rw [if_neg (by omega)] at HV HE
      rw [decide_eq_false h1] at hlo'
      clear hlo hhi hhi' hcv h1
      have HF := Lib.hid hf; clear hf
      have HTB := Lib.hid htb; clear htb
      go_enter Tryd.func25, Tryd.ntmps25
      go_wp2_with fail
      refine (HT.out _).mono ?_; rintro e w' ⟨d, n, rfl, rfl, hd, _, _⟩
      obtain rfl := (hd HF.out).trans HTB.out
      go_wp2_with fail
      go_ret2
      exact ⟨ret_val (by rw [HV.out, HE.out]; rfl), n, rfl⟩
  · rw [if_neg (fun h => hf h.1)] at HV HE
    have HT := Lib.hid (trunc_any b hb)
    by_cases hi : Fl.rg b = 9218868437227405312
    · have ht : (FloatKind.f64.format.order b 14114281232179134464 == some .gt || FloatKind.f64.format.order b 14114281232179134464 == some .eq) = true ∨ (FloatKind.f64.format.order b 14114281232179134464 == some .gt || FloatKind.f64.format.order b 14114281232179134464 == some .eq) = false := by
        cases (FloatKind.f64.format.order b 14114281232179134464 == some .gt || FloatKind.f64.format.order b 14114281232179134464 == some .eq) <;> simp
      have ht2 : (FloatKind.f64.format.order b 4890909195324358656 == some .lt) = false ∨ (FloatKind.f64.format.order b 14114281232179134464 == some .gt || FloatKind.f64.format.order b 14114281232179134464 == some .eq) = false := by
        rw [ord_lt, ord_gt, ord_eq]
        unfold Fl.flt Fl.feq Fl.K
        rw [show Fl.isNaN 4890909195324358656 = false from by decide, show Fl.isNaN 14114281232179134464 = false from by decide, show Fl.ng 4890909195324358656 = false from by decide, show Fl.ng 14114281232179134464 = true from by decide, show Fl.rg 4890909195324358656 = 4890909195324358656 from by decide, show Fl.rg 14114281232179134464 = 4890909195324358656 from by decide, show Fl.isNaN b = false from by unfold Fl.isNaN; rw [hi]; rfl, hi]
        cases Fl.ng b <;> simp
      have HI := Lib.hid hi; clear hi hf
      rcases ht with ht | ht
      · have ht3 : (FloatKind.f64.format.order b 4890909195324358656 == some .lt) = false := by
          rcases ht2 with h | h
          · exact h
          · rw [ht] at h; cases h
        clear ht2
        go_enter Tryd.func25, Tryd.ntmps25
        go_wp2_with fail
        refine (HT.out _).mono ?_; rintro e w' ⟨d, n, rfl, rfl, _, hd, _⟩
        obtain rfl := hd HI.out
        go_wp2_with fail
        go_ret2
        exact ⟨ret_val (by rw [HV.out, HE.out]; rfl), n, rfl⟩
      · clear ht2
        go_enter Tryd.func25, Tryd.ntmps25
        go_wp2_with fail
        refine (HT.out _).mono ?_; rintro e w' ⟨d, n, rfl, rfl, _, hd, _⟩
        obtain rfl := hd HI.out
        go_wp2_with fail
        go_ret2
        exact ⟨ret_val (by rw [HV.out, HE.out]; rfl), n, rfl⟩
    · have hn : Fl.isNaN b = true := by unfold Fl.isNaN; simp; omega
      have HN := Lib.hid hn; clear hn hi hf
      go_enter Tryd.func25, Tryd.ntmps25
      go_wp2_with fail
      refine (HT.out _).mono ?_; rintro e w' ⟨d, n, rfl, rfl, _, _, hd⟩
      have ho : FloatKind.f64.format.order d 14114281232179134464 = none := Fl.order_nan_left _ (hd HN.out)
      clear hd
      go_wp2_with fail
      go_ret2
      exact ⟨ret_val (by rw [HV.out, HE.out]; rfl), n, rfl⟩
end Go.Proofs.YtbcgecenfedjdaaDoor
