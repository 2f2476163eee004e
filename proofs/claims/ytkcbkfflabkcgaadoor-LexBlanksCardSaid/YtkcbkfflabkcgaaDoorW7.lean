/-
  Walks of the program's digits, exact and Parse: any text's float.
-/
import Derived.Test.YtkcbkfflabkcgaaDoorW6
import Derived.Test.YtkcbkfflabkcgaaDoorFq
import Derived.Lib.SmallJoins
namespace Go.Proofs.YtkcbkfflabkcgaaDoor
open Go.RowKit Ieee

theorem all_take_succ (l : List UInt8) (k : Nat) (h : k < l.length) : (l.take (k + 1)).all isDig = ((l.take k).all isDig && isDig l[k]) := by
  rw [List.take_succ_eq_append_getElem h, List.all_append]; simp

theorem dig_false {l : List UInt8} {k : Nat} {d : Bool} (h1 : (l.take k).all isDig = true) (h2 : (l.take (k + 1)).all isDig = ((l.take k).all isDig && d)) (h3 : d = false) : l.all isDig = false := by
  rw [h1, h3] at h2
  cases h : l.all isDig
  · rfl
  · have : (l.take (k + 1)).all isDig = true := by
      rw [List.all_eq_true] at h ⊢
      intro x hx; exact h x (List.mem_of_mem_take hx)
    rw [this] at h2; cases h2

set_option maxRecDepth 100000 in
set_option maxHeartbeats 1000000 in
theorem digits_any (s : ByteArray) (most : Nat) (hs : s.size ≤ 1000000) (w : World) : Calls Tryd.prog 42 #[.string s, .int .i64 most] w fun e w' => e = .returned (.bool (digsOK s.data.toList most)) ∧ Below w.heap.size w w' := by
  have hcv := Lib.run_convert_string_bytes (P := Tryd.prog) w 9 22 5 s Tryd.underlying9 Tryd.underlying22 Tryd.underlying5
  have hcell := Lib.bytesWorld_cell w 5 s
  have HC := Lib.hid hcell; clear hcell
  have HB := Lib.hid (Joins.below_bytesWorld w.heap.size w 5 s (Nat.le_refl _))
  have HD := Lib.hid (digsOK.eq_def s.data.toList most)
  have hlen : s.data.toList.length = s.size := by simp
  have HL := Lib.hid hlen; clear hlen
  generalize Lib.bytesWorld w 5 s = wb at *
  go_enter Tryd.func42, Tryd.ntmps42
  go_wp2
  go_loop [10] (fun i => ∃ k : Nat, k ≤ s.size ∧ i = .int .i64 k ∧ Hid ((s.data.toList.take k).all isDig = true)) (fun i => s.size - (intOf i).toNat)
  case atStart => exact ⟨0, Nat.zero_le _, rfl, by show _ = _; simp⟩
  case round =>
    obtain ⟨k, hk, rfl, hall⟩ := hrel
    by_cases hlt : k < s.size
    · have hc := HC.out k hlt
      have hdg : isDig (s.data.toList.getD k 0) = decide (48 ≤ (s.data.toList.getD k 0).toNat ∧ (s.data.toList.getD k 0).toNat ≤ 57) := rfl
      have hbyte : (s.data.toList.getD k 0).toNat < 256 := (s.data.toList.getD k 0).toNat_lt
      have hsucc := all_take_succ s.data.toList k (by rw [HL.out]; exact hlt)
      have hg : s.data.toList.getD k 0 = s.data.toList[k]'(by rw [HL.out]; exact hlt) := by simp [List.getD, hlt]
      rw [← hg] at hsucc
      have HS := Lib.hid hsucc; clear hsucc hg
      have HDG := Lib.hid hdg; clear hdg
      generalize s.data.toList.getD k 0 = c at *
      generalize hn : c.toNat = n at *
      clear hn
      by_cases hd : 48 ≤ n ∧ n ≤ 57
      · obtain ⟨d1, d2⟩ := hd
        have ht1 : decide ((n : Int) < 48) = false := by simp; omega
        have ht2 : decide ((57 : Int) < (n : Int)) = false := by simp; omega
        have HQ := Lib.hid (show isDig c = true from by rw [HDG.out]; simp [d1, d2])
        clear d1 d2
        go_wp2
        go_round
        case rel => exact ⟨k + 1, by omega, by go_num, by show _ = _; rw [HS.out, hall.out, HQ.out]; rfl⟩
        case measure => simp [intOf]; omega
      · have HQ := Lib.hid (show isDig c = false from by rw [HDG.out]; simp [hd])
        have HF := Lib.hid (dig_false hall.out HS.out HQ.out)
        by_cases h48 : n < 48
        · have ht1 : decide ((n : Int) < 48) = true := by simp; omega
          clear hd h48
          go_wp2
          go_ret
          exact ⟨ret_val (by rw [HD.out, HF.out]; rfl), HB.out⟩
        · have ht1 : decide ((n : Int) < 48) = false := by simp; omega
          have ht2 : decide ((57 : Int) < (n : Int)) = true := by simp; omega
          clear hd h48
          go_wp2
          go_ret
          exact ⟨ret_val (by rw [HD.out, HF.out]; rfl), HB.out⟩
    · have hall2 := hall.out
      rw [List.take_of_length_le (by rw [HL.out]; omega)] at hall2
      have HA := Lib.hid hall2
      clear hall2 hall
      have HR : Hid (digsOK s.data.toList most = (decide (1 ≤ s.size) && decide (s.size ≤ most))) := by
        show _ = _; rw [HD.out, HA.out, HL.out]; rfl
      by_cases g1 : 1 ≤ s.size
      · by_cases g2 : s.size ≤ most
        · have HV := Lib.hid (HR.out.trans (show _ = true by simp [g1, g2]))
          clear hk
          go_wp2
          go_ret
          exact ⟨ret_val (by rw [HV.out]; rfl), HB.out⟩
        · have HV := Lib.hid (HR.out.trans (show _ = false by simp [g2]))
          clear hk
          go_wp2
          go_ret
          exact ⟨ret_val (by rw [HV.out]; rfl), HB.out⟩
      · have HV := Lib.hid (HR.out.trans (show _ = false by simp [g1]))
        clear hk
        go_wp2
        go_ret
        exact ⟨ret_val (by rw [HV.out]; rfl), HB.out⟩

def oneB (neg : Bool) : Nat := if neg then 13830554455654793216 else 4607182418800017408
theorem mul_oneB (neg : Bool) {r : Nat} (h : r < 9218868437227405312) : double.mul (oneB neg) r = some (double.word neg r) := by
  unfold Format.mul
  have e1 : double.read (oneB neg) = .number neg 4503599627370496 (-52) := by cases neg <;> decide
  have e0 : Fl.rg r = r := Nat.mod_eq_of_lt (by omega)
  have e2 : Fl.ng r = false := by unfold Fl.ng; simp; omega
  rw [e1, Fl.read_fin (by rw [e0]; exact h), e0, e2]
  simp only [Datum.product, Bool.xor_false, Option.map_some, Format.write]
  congr 1
  rw [Nat.mul_comm, show (4503599627370496 : Nat) = 2 ^ 52 from rfl, nearest_shift]
  by_cases h0 : r = 0
  · rw [h0, show Fl.mag 0 = 0 from by decide, Fl.nearest_zero]
  · have hp := Fl.plc_le h
    have hl := Fl.log2_lt53 (mag_ne h0) (Fl.mag_lt _)
    rw [show (-52 : Int) + (-1074 + (Fl.plc r : Int)) + (52 : Nat) = -1074 + (Fl.plc r : Int) from by omega,
      Fl.nearest_fin _ (mag_ne h0) (Fl.mag_lt _) (by omega) (by omega), Fl.rungOf_self h h0]

theorem ldx_le (r : Nat) (e : Int) : ldxB r e ≤ 9218868437227405312 := by
  have hm : r % 4503599627370496 < 4503599627370496 := Nat.mod_lt _ (by omega)
  unfold ldxB
  split
  · omega
  · split
    · omega
    · split
      · unfold Format.nearest
        rw [if_neg (by omega), word_false, Fl.iR]
        exact Nat.min_le_right _ _
      · omega

theorem rungOf_one {m : Nat} (h1 : 1 ≤ m) (h : m < 9007199254740992) : 4503599627370496 ≤ Fl.rungOf m 0 ∧ Fl.rungOf m 0 < 9218868437227405312 := by
  obtain ⟨e, a, b⟩ := rungOf_norm (n := m) (k := 0) (by omega) h (by omega)
  have hl := Fl.log2_lt53 (show m ≠ 0 by omega) h
  rw [e]; omega
theorem floatOfInt_small {m : Nat} (h1 : 1 ≤ m) (h : m < 9007199254740992) : floatOfInt .f64 (m : Int) = Fl.rungOf m 0 := by
  have hl := Fl.log2_lt53 (show m ≠ 0 by omega) h
  show double.write (.number (decide ((m : Int) < 0)) (m : Int).natAbs 0) = _
  rw [show decide ((m : Int) < 0) = false from by simp, Int.natAbs_natCast]
  show double.nearest false m 0 = _
  rw [Fl.nearest_fin _ (by omega) h (by omega) (by omega), word_false]
theorem rungOf_pos {m : Nat} {e : Int} (h0 : m ≠ 0) (h : m < 9007199254740992) (hr : rep m e) : Fl.rungOf m e ≠ 0 ∧ Fl.rungOf m e < 9218868437227405312 := by
  refine ⟨?_, Fl.rungOf_fin h0 h hr.1 hr.2⟩
  obtain ⟨a, _⟩ := Fl.rungOf_spec h0 h hr.1
  intro hz
  rw [hz, show Fl.mag 0 = 0 from by decide] at a
  have := Nat.mul_pos (show 0 < m by omega) (Nat.two_pow_pos (e - Fl.lastOf m e).toNat)
  omega
theorem txt_rung {m : Nat} {e : Int} (ho : m % 2 = 1) (h : m < 9007199254740992) (hr : rep m e) : textB (Fl.rungOf m e) = Lib.decDigits m ++ 112 :: Lib.itoa e := by
  obtain ⟨g0, g1⟩ := rungOf_pos (show m ≠ 0 by omega) h hr
  obtain ⟨p1, p2, p3, p4, _⟩ := pos_facts g0 g1
  obtain ⟨a, b⟩ := Fl.rungOf_spec (show m ≠ 0 by omega) h hr.1
  have hml := Fl.mag_lt (Fl.rungOf m e)
  obtain ⟨c, d⟩ := odd_of ho a (by omega)
  have e1 : txtN (Fl.rungOf m e) = m := c
  have e2 : txtE (Fl.rungOf m e) = e := by
    unfold txtE; rw [d, b]
    have : Fl.lastOf m e ≤ e := by have := Fl.log2_lt53 (show m ≠ 0 by omega) h; have := hr.1; unfold Fl.lastOf; omega
    omega
  unfold textB
  rw [p4, p3, p2, if_neg (show Fl.rungOf m e ≠ 9218868437227405312 by omega), if_neg g0, e1, e2]; rfl
theorem cmp_join (a c l : List UInt8) : (l == ({ data := a.toArray } ++ { data := #[112] } ++ { data := c.toArray } : ByteArray).toList) = (l == a ++ 112 :: c) := by
  congr 1
  rw [ByteArray.toList_eq]
  simp
theorem exact_bounds {n m j : Nat} (hn : n ≤ 9007199254740992) (hm : 1 ≤ m) (e : n = m * 2 ^ j) : m ≤ 9007199254740992 ∧ j ≤ 53 := by
  have hp := Nat.two_pow_pos j
  constructor
  · have : m ≤ m * 2 ^ j := Nat.le_mul_of_pos_right _ hp
    omega
  · have h2 : 2 ^ j ≤ m * 2 ^ j := Nat.le_mul_of_pos_left _ hm
    have h3 : 2 ^ j ≤ 2 ^ 53 := by omega
    exact (Nat.pow_le_pow_iff_right (by omega : 1 < 2)).1 h3
theorem half_step {n m k : Nat} (h : m % 2 = 0) (e : Hid (n = m * 2 ^ k)) : Hid (n = (m / 2) * 2 ^ (k + 1)) := by
  show _ = _
  rw [e.out, Nat.pow_succ, Nat.mul_comm (2 ^ k) 2, ← Nat.mul_assoc]
  congr 1; omega

set_option maxRecDepth 100000 in
set_option maxHeartbeats 1000000 in
theorem exact_any (neg : Bool) (n : Nat) (hn : n ≤ 9007199254740992) (k : Int) (h1 : -10000 ≤ k) (h2 : k ≤ 10000) (w : World) (hE : Env w) :
    Calls Tryd.prog 45 #[.float .f64 (oneB neg), .int .u64 n, .int .i64 k] w fun e w' => e = .returned (.tuple #[.float .f64 (exB neg n k), .int .i64 (exE n k)]) ∧ Below w.heap.size w w' := by
  by_cases h0 : n = 0
  · subst h0
    have hm := fun w => run_float_arith (P := Tryd.prog) w .mul 28 .f64 (oneB neg) 0 _ (mul_oneB neg (r := 0) (by omega))
    go_enter Tryd.func45, Tryd.ntmps45
    go_wp2
    go_ret2
    exact ⟨rfl, Below.refl _ _⟩
  · have hz : ((n : Int) == 0) = false := by simp; omega
    have HX := Lib.hid (exB.eq_def neg n k)
    have HY := Lib.hid (exE.eq_def n k)
    rw [if_neg h0] at HX HY
    go_enter Tryd.func45, Tryd.ntmps45
    go_wp2
    go_loop [1, 2] (fun nv kv => ∃ j m : Nat, 1 ≤ m ∧ Hid (n = m * 2 ^ j) ∧ kv = .int .i64 (k + j) ∧ nv = .int .u64 m) (fun nv _ => (intOf nv).toNat)
    case atStart => exact ⟨0, n, by omega, by show _ = _; simp, by congr 1; omega, rfl⟩
    case round =>
      obtain ⟨j, m, hm1, hjm, rfl, rfl⟩ := hrel
      obtain ⟨hb1, hb2⟩ := exact_bounds hn hm1 hjm.out
      by_cases hp : m % 2 = 0
      · have ht : ((m : Int) % 2 == 0) = true := by simp; omega
        have HP := Lib.hid hp; clear hp
        go_wp2
        go_round
        case rel => exact ⟨j + 1, m / 2, by have := HP.out; omega, half_step HP.out hjm, by go_num, by congr 1⟩
        case measure => simp [intOf]; omega
      · have ht : ((m : Int) % 2 == 0) = false := by simp; omega
        have hodd : m % 2 = 1 := by omega
        have HP := Lib.hid hodd; clear hp hodd
        obtain ⟨eo, et⟩ := odd_of HP.out hjm.out (by omega)
        rw [eo, et] at HX HY
        clear eo et
        have hr := rungOf_one hm1 (show m < 9007199254740992 by have := HP.out; omega)
        have HR := Lib.hid hr; clear hr
        go_wp2_with (fail)
        rw [floatOfInt_small hm1 (show m < 9007199254740992 by have := HP.out; omega)]
        refine (ldexp_any _ HR.out.1 HR.out.2 (k + j) (by omega) (by omega) _).mono ?_; rintro e w' ⟨rfl, rfl⟩
        by_cases hrep : rep m (k + j)
        · rw [if_pos hrep] at HX HY
          rw [ldx_exact (by omega) (show m < 9007199254740992 by have := HP.out; omega) hrep]
          have HT := Lib.hid (txt_rung HP.out (show m < 9007199254740992 by have := HP.out; omega) hrep)
          obtain ⟨g0, g1⟩ := rungOf_pos (show m ≠ 0 by omega) (show m < 9007199254740992 by have := HP.out; omega) hrep
          clear hrep
          generalize Fl.rungOf m (k + j) = g at *
          obtain ⟨p1, p2, p3, p4, p5⟩ := pos_facts g0 g1
          have hs := fun w => run_float_arith (P := Tryd.prog) w .sub 28 .f64 g g 0 (sub_self_fin (by rw [p2]; exact g1))
          have ho : FloatKind.f64.format.order 0 0 = some .eq := by kernel_rfl
          have hmul := fun w => run_float_arith (P := Tryd.prog) w .mul 28 .f64 (oneB neg) g _ (mul_oneB neg g1)
          have HTX := Lib.hid (text_any g p1)
          rw [HT.out] at HTX
          clear p1 p2 p3 p4 g0 g1
          have hl1 := dec_len m (by omega)
          have hl2 := itoa_len (k + j) (by omega) (by omega)
          go_wp2_with fail
          refine (HTX.out _ hE).mono ?_; rintro e w1 ⟨rfl, hw1⟩
          go_wp2_with fail
          refine (formatUint_any m (by omega) _ (hE.below hw1)).mono ?_; rintro e w2 ⟨rfl, hw2⟩
          go_wp2_with fail
          refine (itoa_any (k + j) (by omega) (by omega) _ (hE.below (below_tr hw1 hw2))).mono ?_; rintro e w3 ⟨rfl, hw3⟩
          have hq := cmp_join (Lib.decDigits m) (Lib.itoa (k + j)) (Lib.decDigits m ++ 112 :: Lib.itoa (k + j))
          rw [show (Lib.decDigits m ++ 112 :: Lib.itoa (k + j) == Lib.decDigits m ++ 112 :: Lib.itoa (k + j)) = true from by simp] at hq
          go_wp2_with fail
          go_ret2
          exact ⟨ret_val (by rw [HX.out, HY.out]; rfl), below_tr (below_tr hw1 hw2) hw3⟩
        · rw [if_neg hrep] at HX HY
          have hle := ldx_le (Fl.rungOf m 0) (k + j)
          have ho : FloatKind.f64.format.order 0 0 = some .eq := by kernel_rfl
          generalize ldxB (Fl.rungOf m 0) (k + j) = g at *
          by_cases g0 : g = 0
          · subst g0
            have hs := fun w => run_float_arith (P := Tryd.prog) w .sub 28 .f64 0 0 0 (sub_self_fin (by decide))
            clear hle hrep
            go_wp2
            go_ret2
            exact ⟨ret_val (by rw [HX.out, HY.out]; rfl), Below.refl _ _⟩
          · by_cases gi : g = 9218868437227405312
            · subst gi
              have hs := fun w => run_float_none (P := Tryd.prog) w .sub 28 9218868437227405312 9218868437227405312 (.inr (.inl rfl)) (sub_self_inf (by decide))
              have hno := fun w => nanPick_order w 9218868437227405312 9218868437227405312
              clear hle hrep g0
              go_wp2
              go_ret2
              exact ⟨ret_val (by rw [HX.out, HY.out]; rfl), Below.drew (Below.refl _ _)⟩
            · obtain ⟨p1, p2, p3, p4, p5⟩ := pos_facts g0 (show g < 9218868437227405312 by omega)
              have hs := fun w => run_float_arith (P := Tryd.prog) w .sub 28 .f64 g g 0 (sub_self_fin (by rw [p2]; omega))
              have HTX := Lib.hid (text_any g p1)
              have htx : textB g = Lib.decDigits (txtN g) ++ 112 :: Lib.itoa (txtE g) := by
                unfold textB; rw [p4, p3, p2, if_neg gi, if_neg g0]; rfl
              have hne : (textB g == Lib.decDigits m ++ 112 :: Lib.itoa (k + j)) = false := by
                rw [beq_eq_false_iff_ne]
                intro he
                rw [htx] at he
                obtain ⟨a1, a2⟩ := txt_inj he
                have := (txt_bounds g0 (by omega)).2.2.1
                rw [a1, a2] at this
                exact hrep this
              have hq := cmp_join (Lib.decDigits m) (Lib.itoa (k + j)) (textB g)
              rw [hne] at hq
              clear hne htx p1 p2 p3 p4 hle hrep g0 gi
              have hl1 := dec_len m (by omega)
              have hl2 := itoa_len (k + j) (by omega) (by omega)
              go_wp2_with fail
              refine (HTX.out _ hE).mono ?_; rintro e w1 ⟨rfl, hw1⟩
              go_wp2_with fail
              refine (formatUint_any m (by omega) _ (hE.below hw1)).mono ?_; rintro e w2 ⟨rfl, hw2⟩
              go_wp2_with fail
              refine (itoa_any (k + j) (by omega) (by omega) _ (hE.below (below_tr hw1 hw2))).mono ?_; rintro e w3 ⟨rfl, hw3⟩
              go_wp2_with fail
              go_ret2
              exact ⟨ret_val (by rw [HX.out, HY.out]; rfl), below_tr (below_tr hw1 hw2) hw3⟩
end Go.Proofs.YtkcbkfflabkcgaaDoor
