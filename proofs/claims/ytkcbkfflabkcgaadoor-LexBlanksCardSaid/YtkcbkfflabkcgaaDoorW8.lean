/-
  The walk of the program's Parse: any text's float.
-/
import Derived.Test.YtkcbkfflabkcgaaDoorW7
namespace Go.Proofs.YtkcbkfflabkcgaaDoor
open Go.RowKit Ieee

theorem beq_bytes (s : ByteArray) (l : List UInt8) : (s.toList == l) = (s.data.toList == l) := by rw [ByteArray.toList_eq]

/-- strings.CutPrefix at a minus -/
theorem cutPrefix_any (l : List UInt8) (w : World) : Calls Tryd.prog 37 #[.string ⟨l.toArray⟩, .string ⟨#[45]⟩] w fun e w' => e = .returned (.tuple #[.string ⟨(unNeg l).toArray⟩, .bool (isNeg l)]) ∧ w = w' := by
  have hc := Tryd.strings_CutPrefix ⟨l.toArray⟩ ⟨#[45]⟩ w
  rw [show (⟨#[45]⟩ : ByteArray).data.toList = [45] from rfl, show (⟨l.toArray⟩ : ByteArray).data.toList = l from rfl, hasPrefix_neg, trimPrefix_neg] at hc
  exact hc.mono fun _ _ ⟨h1, h2⟩ => ⟨h1, h2.symm⟩

theorem cutP_none (l : List UInt8) (hl : l.length ≤ 1000000) (h : splitP l = none) (w : World) (hE : Env w) : Calls Tryd.prog 41 #[.string ⟨l.toArray⟩, .string ⟨#[112]⟩] w fun e w' =>
    e = .returned (.tuple #[.string ⟨l.toArray⟩, .string ⟨#[]⟩, .bool false]) ∧ Below w.heap.size w w' := by
  obtain ⟨m, hm⟩ := hE.most
  have hc := Tryd.strings_Cut ⟨l.toArray⟩ ⟨#[112]⟩ m w (by show l.toArray.size < _; simp; omega) hm
  rw [show (⟨#[112]⟩ : ByteArray).data.toList = [112] from rfl, show (⟨l.toArray⟩ : ByteArray).data.toList = l from rfl, cut_p, h] at hc
  exact hc.mono fun _ _ ⟨h1, n, h2⟩ => ⟨h1, by rw [h2]; exact below_drewN _ _⟩
theorem cutP_some (l a b : List UInt8) (hl : l.length ≤ 1000000) (h : splitP l = some (a, b)) (w : World) (hE : Env w) : Calls Tryd.prog 41 #[.string ⟨l.toArray⟩, .string ⟨#[112]⟩] w fun e w' =>
    e = .returned (.tuple #[.string ⟨a.toArray⟩, .string ⟨b.toArray⟩, .bool true]) ∧ Below w.heap.size w w' := by
  obtain ⟨m, hm⟩ := hE.most
  have hc := Tryd.strings_Cut ⟨l.toArray⟩ ⟨#[112]⟩ m w (by show l.toArray.size < _; simp; omega) hm
  rw [show (⟨#[112]⟩ : ByteArray).data.toList = [112] from rfl, show (⟨l.toArray⟩ : ByteArray).data.toList = l from rfl, cut_p, h] at hc
  exact hc.mono fun _ _ ⟨h1, n, h2⟩ => ⟨h1, by rw [h2]; exact below_drewN _ _⟩
theorem digits_list (l : List UInt8) (most : Nat) (hl : l.length ≤ 1000000) (w : World) : Calls Tryd.prog 42 #[.string ⟨l.toArray⟩, .int .i64 most] w fun e w' => e = .returned (.bool (digsOK l most)) ∧ Below w.heap.size w w' :=
  digits_any ⟨l.toArray⟩ most (by show l.toArray.size ≤ _; simp; omega) w
theorem parseUint_ok (l : List UInt8) (hl : l.length ≤ 1000000) (u : Nat) (h : Lib.parseUintB 64 l = .ok u) (w : World) : Calls Tryd.prog 43 #[.string ⟨l.toArray⟩, .int .i64 10, .int .i64 64] w fun e w' =>
    e = .returned (.tuple #[.int .u64 u, .nilIface]) ∧ Below w.heap.size w w' :=
  (Tryd.strconv_ParseUint_10_at64_ok ⟨l.toArray⟩ (by show l.toArray.size ≤ _; simp; omega) u h w).mono fun _ _ ⟨h1, h2⟩ => ⟨h1, by
    rcases h2 with h2 | h2 <;> rw [h2]
    · exact Below.refl _ _
    · exact Joins.below_bytesWorld _ _ _ _ (Nat.le_refl _)⟩
theorem parseUint_range (l : List UInt8) (hl : l.length ≤ 1000000) (h : Lib.parseUintB 64 l = .range) (w : World) (hE : Env w) : Calls Tryd.prog 43 #[.string ⟨l.toArray⟩, .int .i64 10, .int .i64 64] w fun e w' =>
    ∃ N, e = .returned (.tuple #[.int .u64 18446744073709551615, .iface 90 (.pointer (some ⟨N, 0, none⟩))]) ∧ Below w.heap.size w w' := by
  obtain ⟨ev, he, hev⟩ := hE.rng
  exact (Tryd.strconv_ParseUint_10_at64_range ⟨l.toArray⟩ (by show l.toArray.size ≤ _; simp; omega) h ev w he hev).mono fun _ _ ⟨N, h1, _, _, h2⟩ => ⟨N, h1, h2⟩
theorem atoi_ok (l : List UInt8) (hl : l.length ≤ 1000000) (v : Int) (h : Lib.atoiAll l = .ok v) (w : World) : Calls Tryd.prog 44 #[.string ⟨l.toArray⟩] w fun e w' =>
    e = .returned (.tuple #[.int .i64 v, .nilIface]) ∧ Below w.heap.size w w' :=
  (Tryd.strconv_Atoi_ok ⟨l.toArray⟩ (by show l.toArray.size ≤ _; simp; omega) v h w).mono fun _ _ ⟨h1, h2⟩ => ⟨h1, by
    rcases h2 with h2 | ⟨t, h2⟩ <;> rw [h2]
    · exact Below.refl _ _
    · exact Joins.below_bytesWorld _ _ _ _ (Nat.le_refl _)⟩

theorem splitP_len {l a b : List UInt8} (h : splitP l = some (a, b)) : a.length ≤ l.length ∧ b.length ≤ l.length := by
  rcases index_p l with ⟨h1, _⟩ | ⟨a', b', h1, h2, _⟩
  · rw [h1] at h; cases h
  · rw [h1] at h; cases h
    rw [h2]; simp; omega
theorem unNeg_len (l : List UInt8) : (unNeg l).length ≤ l.length := by
  unfold unNeg; split
  · rw [List.length_tail]; omega
  · exact Nat.le_refl _

set_option maxRecDepth 100000 in
set_option maxHeartbeats 1000000 in
theorem parse_nan (l : List UInt8) (w : World) (h1 : l = [110, 97, 110]) :
    Calls Tryd.prog 30 #[.string ⟨l.toArray⟩] w fun e w' => e = .returned (.tuple #[.float .f64 (parseB l).1, .int .i64 (parseB l).2]) ∧ Below w.heap.size w w' := by
  subst h1
  have HP := Lib.hid (show parseB [110, 97, 110] = (9221120237041090560, 0) from rfl)
  have HC := Lib.hid (cutPrefix_any [110, 97, 110])
  go_enter Tryd.func30, Tryd.ntmps30
  go_wp2_with (first
    | (go_at_call 37; refine (HC.out _).mono ?_; rintro e w' ⟨rfl, rfl⟩)
    | (go_at_call 39; refine (mnan_any _).mono ?_; rintro e w' ⟨rfl, rfl⟩)
    | (go_at_call 38; refine (canon_any _ _).mono ?_; rintro e w' ⟨rfl, rfl⟩))
  go_ret2
  exact ⟨ret_val (by rw [HP.out]; rfl), Below.refl _ _⟩

set_option maxRecDepth 100000 in
set_option maxHeartbeats 1000000 in
theorem parse_inf (l : List UInt8) (w : World) (h1 : ¬ l = [110, 97, 110]) (h2 : unNeg l = [105, 110, 102]) :
    Calls Tryd.prog 30 #[.string ⟨l.toArray⟩] w fun e w' => e = .returned (.tuple #[.float .f64 (parseB l).1, .int .i64 (parseB l).2]) ∧ Below w.heap.size w w' := by
  have HP := Lib.hid (parseB.eq_def l)
  rw [if_neg h1, if_pos h2] at HP
  have hc := cutPrefix_any l
  rw [h2] at hc
  have HC := Lib.hid hc; clear hc h2
  have hq : (l == [110, 97, 110]) = false := by simp [h1]
  have HI := Lib.hid inf_pos
  have HJ := Lib.hid inf_neg
  have hv1 := fun w => run_convert_float_int (P := Tryd.prog) w 28 3 .f64 .i64 4607182418800017408 1 (by rw [Tryd.underlying28]; rfl) Tryd.underlying3 (by decide)
  have hv2 := fun w => run_convert_float_int (P := Tryd.prog) w 28 3 .f64 .i64 13830554455654793216 (-1) (by rw [Tryd.underlying28]; rfl) Tryd.underlying3 (by decide)
  cases hn : isNeg l
  · rw [hn] at HC HP
    go_enter Tryd.func30, Tryd.ntmps30
    go_wp2_with (first
      | (go_at_call 37; refine (HC.out _).mono ?_; rintro e w' ⟨rfl, rfl⟩)
      | (go_at_call 40; refine (HI.out _).mono ?_; rintro e w' ⟨rfl, rfl⟩))
    go_ret2
    exact ⟨ret_val (by rw [HP.out]; rfl), Below.refl _ _⟩
  · rw [hn] at HC HP
    go_enter Tryd.func30, Tryd.ntmps30
    go_wp2_with (first
      | (go_at_call 37; refine (HC.out _).mono ?_; rintro e w' ⟨rfl, rfl⟩)
      | (go_at_call 40; refine (HJ.out _).mono ?_; rintro e w' ⟨rfl, rfl⟩))
    go_ret2
    exact ⟨ret_val (by rw [HP.out]; rfl), Below.refl _ _⟩

set_option maxRecDepth 100000 in
set_option maxHeartbeats 1000000 in
theorem parse_none (l : List UInt8) (hl : l.length ≤ 1000000) (w : World) (hE : Env w) (h1 : ¬ l = [110, 97, 110]) (h2 : ¬ unNeg l = [105, 110, 102]) (h3 : splitP (unNeg l) = none) :
    Calls Tryd.prog 30 #[.string ⟨l.toArray⟩] w fun e w' => e = .returned (.tuple #[.float .f64 (parseB l).1, .int .i64 (parseB l).2]) ∧ Below w.heap.size w w' := by
  have HP := Lib.hid (parseB.eq_def l)
  rw [if_neg h1, if_neg h2, h3] at HP
  have HC := Lib.hid (cutPrefix_any l)
  have HC2 := Lib.hid (cutPrefix_any [])
  have hul := unNeg_len l
  have HU := Lib.hid (cutP_none (unNeg l) (by omega) h3)
  have hq : (l == [110, 97, 110]) = false := by simp [h1]
  have hq2 : (unNeg l == [105, 110, 102]) = false := by simp [h2]
  clear h1 h2 h3 hul
  generalize unNeg l = r at *
  cases hn : isNeg l
  all_goals
    rw [hn] at HC
    go_enter Tryd.func30, Tryd.ntmps30
    go_wp2_with fail
    refine (HC.out _).mono ?_; rintro e w' ⟨rfl, rfl⟩
    go_wp2_with fail
    refine (HU.out _ hE).mono ?_; rintro e w1 ⟨rfl, hw1⟩
    go_wp2_with fail
    refine (HC2.out _).mono ?_; rintro e w' ⟨rfl, rfl⟩
    go_wp2_with fail
    go_ret2
    exact ⟨ret_val (by rw [HP.out]; rfl), hw1⟩


set_option maxRecDepth 100000 in
set_option maxHeartbeats 2000000 in
theorem parse_form (l m p : List UInt8) (hl : l.length ≤ 1000000) (w : World) (hE : Env w) (h1 : ¬ l = [110, 97, 110]) (h2 : ¬ unNeg l = [105, 110, 102]) (h3 : splitP (unNeg l) = some (m, p)) (h4 : (digsOK m 20 && digsOK (unNeg p) 4) = false) :
    Calls Tryd.prog 30 #[.string ⟨l.toArray⟩] w fun e w' => e = .returned (.tuple #[.float .f64 (parseB l).1, .int .i64 (parseB l).2]) ∧ Below w.heap.size w w' := by
  have HP := Lib.hid (parseB.eq_def l)
  rw [if_neg h1, if_neg h2, h3] at HP
  simp only [h4] at HP
  have HC := Lib.hid (cutPrefix_any l)
  have HC2 := Lib.hid (cutPrefix_any p)
  have hul := unNeg_len l
  obtain ⟨b1, b2⟩ := splitP_len h3
  have HU := Lib.hid (cutP_some (unNeg l) m p (by omega) h3)
  have HD1 := Lib.hid (digits_list m 20 (by omega))
  have HD2 := Lib.hid (digits_list (unNeg p) 4 (by have := unNeg_len p; omega))
  have hq : (l == [110, 97, 110]) = false := by simp [h1]
  have hq2 : (unNeg l == [105, 110, 102]) = false := by simp [h2]
  clear h1 h2 h3 hul b1 b2 hl
  generalize unNeg l = r at *
  generalize unNeg p = pw at *
  generalize isNeg p = np at *
  cases hn : isNeg l <;> cases hd : digsOK m 20 <;> cases hd2 : digsOK pw 4
  case false.true.true => rw [hd, hd2] at h4; cases h4
  case true.true.true => rw [hd, hd2] at h4; cases h4
  all_goals
    clear h4
    rw [hn] at HC
    rw [hd] at HD1
    rw [hd2] at HD2
    go_enter Tryd.func30, Tryd.ntmps30
    go_wp2_with fail
    refine (HC.out _).mono ?_; rintro e w' ⟨rfl, rfl⟩
    go_wp2_with fail
    refine (HU.out _ hE).mono ?_; rintro e w1 ⟨rfl, hw1⟩
    go_wp2_with fail
    refine (HC2.out _).mono ?_; rintro e w' ⟨rfl, rfl⟩
    go_wp2_with fail
    refine (HD1.out _).mono ?_; rintro e w2 ⟨rfl, hw2⟩
    go_wp2_with fail
    first
      | (go_ret2; exact ⟨ret_val (by rw [HP.out]; rfl), below_tr hw1 hw2⟩)
      | (refine (HD2.out _).mono ?_; rintro e w3 ⟨rfl, hw3⟩
         go_wp2_with fail
         go_ret2
         exact ⟨ret_val (by rw [HP.out]; rfl), below_tr (below_tr hw1 hw2) hw3⟩)

set_option maxRecDepth 100000 in
set_option maxHeartbeats 2000000 in
theorem parse_num (l m p : List UInt8) (hl : l.length ≤ 1000000) (w : World) (hE : Env w) (h1 : ¬ l = [110, 97, 110]) (h2 : ¬ unNeg l = [105, 110, 102]) (h3 : splitP (unNeg l) = some (m, p)) (hd1 : digsOK m 20 = true) (hd2 : digsOK (unNeg p) 4 = true) :
    Calls Tryd.prog 30 #[.string ⟨l.toArray⟩] w fun e w' => e = .returned (.tuple #[.float .f64 (parseB l).1, .int .i64 (parseB l).2]) ∧ Below w.heap.size w w' := by
  have HP := Lib.hid (parseB.eq_def l)
  rw [if_neg h1, if_neg h2, h3] at HP
  simp only [hd1, hd2, Bool.and_self, if_true] at HP
  have HC := Lib.hid (cutPrefix_any l)
  have HC2 := Lib.hid (cutPrefix_any p)
  have hul := unNeg_len l
  obtain ⟨b1, b2⟩ := splitP_len h3
  have b3 := unNeg_len p
  have HU := Lib.hid (cutP_some (unNeg l) m p (by omega) h3)
  have hdd1 := digits_list m 20 (by omega)
  rw [hd1] at hdd1
  have HD1 := Lib.hid hdd1
  have hdd2 := digits_list (unNeg p) 4 (by omega)
  rw [hd2] at hdd2
  have HD2 := Lib.hid hdd2
  obtain ⟨ha, hv⟩ := atoi_digs _ hd2
  have HA := Lib.hid (atoi_ok (unNeg p) (by omega) _ ha)
  have hpu := parseUint_digs m (by unfold digsOK at hd1; simp only [Bool.and_eq_true] at hd1; exact hd1.1) (by unfold digsOK at hd1; simp only [Bool.and_eq_true, decide_eq_true_eq] at hd1; exact hd1.2.1)
  have HO := Lib.hid (fun u h => parseUint_ok m (by omega) u h)
  have HR := Lib.hid (fun h => parseUint_range m (by omega) h)
  have HX := Lib.hid (exact_any (isNeg l) (decVal m))
  have hq : (l == [110, 97, 110]) = false := by simp [h1]
  have hq2 : (unNeg l == [105, 110, 102]) = false := by simp [h2]
  clear h1 h2 h3 hul b1 b2 b3 hl hd1 hd2 hdd1 hdd2 ha
  have HPU := Lib.hid hpu; clear hpu
  generalize unNeg l = r at *
  generalize unNeg p = pw at *
  generalize decVal m = n at *
  generalize decVal pw = v at *
  by_cases hbig : n < 18446744073709551616
  · have hok := HPU.out
    rw [if_pos hbig] at hok
    have HOK := Lib.hid hok; clear hok
    by_cases hmid : 9007199254740992 < n
    · rw [if_pos hmid] at HP
      clear hbig
      cases hn : isNeg l
      all_goals
        rw [hn] at HC
        go_enter Tryd.func30, Tryd.ntmps30
        go_wp2_with fail
        refine (HC.out _).mono ?_; rintro e w' ⟨rfl, rfl⟩
        go_wp2_with fail
        refine (HU.out _ hE).mono ?_; rintro e w1 ⟨rfl, hw1⟩
        go_wp2_with fail
        refine (HC2.out _).mono ?_; rintro e w' ⟨rfl, rfl⟩
        go_wp2_with fail
        refine (HD1.out _).mono ?_; rintro e w2 ⟨rfl, hw2⟩
        go_wp2_with fail
        refine (HD2.out _).mono ?_; rintro e w3 ⟨rfl, hw3⟩
        go_wp2_with fail
        refine (HO.out _ HOK.out _).mono ?_; rintro e w4 ⟨rfl, hw4⟩
        go_wp2_with fail
        go_ret2
        exact ⟨ret_val (by rw [HP.out]; rfl), below_tr (below_tr (below_tr hw1 hw2) hw3) hw4⟩
    · rw [if_neg hmid] at HP
      have hn53 : n ≤ 9007199254740992 := by omega
      clear hbig hmid
      cases hn : isNeg l <;> cases hnp : isNeg p
      all_goals
        rw [hn] at HC HX
        rw [hnp] at HC2
        rw [hn, hnp] at HP
        go_enter Tryd.func30, Tryd.ntmps30
        go_wp2_with fail
        refine (HC.out _).mono ?_; rintro e w' ⟨rfl, rfl⟩
        go_wp2_with fail
        refine (HU.out _ hE).mono ?_; rintro e w1 ⟨rfl, hw1⟩
        go_wp2_with fail
        refine (HC2.out _).mono ?_; rintro e w' ⟨rfl, rfl⟩
        go_wp2_with fail
        refine (HD1.out _).mono ?_; rintro e w2 ⟨rfl, hw2⟩
        go_wp2_with fail
        refine (HD2.out _).mono ?_; rintro e w3 ⟨rfl, hw3⟩
        go_wp2_with fail
        refine (HO.out _ HOK.out _).mono ?_; rintro e w4 ⟨rfl, hw4⟩
        go_wp2_with fail
        refine (HA.out _).mono ?_; rintro e w5 ⟨rfl, hw5⟩
        go_wp2_with fail
        refine (HX.out hn53 _ (by omega) (by omega) _ (hE.below (below_tr (below_tr (below_tr (below_tr hw1 hw2) hw3) hw4) hw5))).mono ?_; rintro e w6 ⟨rfl, hw6⟩
        go_wp2_with fail
        go_ret2
        exact ⟨ret_val (by rw [HP.out]; rfl), below_tr (below_tr (below_tr (below_tr (below_tr hw1 hw2) hw3) hw4) hw5) hw6⟩
  · have hok := HPU.out
    rw [if_neg hbig] at hok
    have HOK := Lib.hid hok; clear hok
    rw [if_pos (show 9007199254740992 < n by omega)] at HP
    clear hbig
    cases hn : isNeg l
    all_goals
      rw [hn] at HC
      go_enter Tryd.func30, Tryd.ntmps30
      go_wp2_with fail
      refine (HC.out _).mono ?_; rintro e w' ⟨rfl, rfl⟩
      go_wp2_with fail
      refine (HU.out _ hE).mono ?_; rintro e w1 ⟨rfl, hw1⟩
      go_wp2_with fail
      refine (HC2.out _).mono ?_; rintro e w' ⟨rfl, rfl⟩
      go_wp2_with fail
      refine (HD1.out _).mono ?_; rintro e w2 ⟨rfl, hw2⟩
      go_wp2_with fail
      refine (HD2.out _).mono ?_; rintro e w3 ⟨rfl, hw3⟩
      go_wp2_with fail
      refine (HR.out HOK.out _ (hE.below (below_tr (below_tr hw1 hw2) hw3))).mono ?_; rintro e w4 ⟨N, rfl, hw4⟩
      go_wp2_with fail
      go_ret2
      exact ⟨ret_val (by rw [HP.out]; rfl), below_tr (below_tr (below_tr hw1 hw2) hw3) hw4⟩

theorem parse_any (l : List UInt8) (hl : l.length ≤ 1000000) (w : World) (hE : Env w) :
    Calls Tryd.prog 30 #[.string ⟨l.toArray⟩] w fun e w' => e = .returned (.tuple #[.float .f64 (parseB l).1, .int .i64 (parseB l).2]) ∧ Below w.heap.size w w' := by
  by_cases h1 : l = [110, 97, 110]
  · exact parse_nan l w h1
  · by_cases h2 : unNeg l = [105, 110, 102]
    · exact parse_inf l w h1 h2
    · cases h3 : splitP (unNeg l) with
      | none => exact parse_none l hl w hE h1 h2 h3
      | some x =>
        obtain ⟨m, p⟩ := x
        by_cases h4 : digsOK m 20 = true ∧ digsOK (unNeg p) 4 = true
        · exact parse_num l m p hl w hE h1 h2 h3 h4.1 h4.2
        · refine parse_form l m p hl w hE h1 h2 h3 ?_
          cases ha : digsOK m 20
          · rfl
          · cases hb : digsOK (unNeg p) 4
            · rfl
            · exact absurd ⟨ha, hb⟩ h4
end Go.Proofs.YtkcbkfflabkcgaaDoor
