/-
  Walks of the references' parts, Digits and Text.
-/
import Derived.Test.YtkcbkfflabkcgaaDoorW6
import Derived.Test.YtkcbkfflabkcgaaDoorFd
namespace Go.Proofs.YtkcbkfflabkcgaaDoor
open Go.RowKit

theorem shl12 (b : Nat) : IntKind.u64.wrap ((b : Int) * 4096) / 4096 = ((Fl.rg b % 4503599627370496 : Nat) : Int) := by
  rw [IntKind.wrap_u64]
  unfold Fl.rg
  omega
theorem shl1 (b : Nat) : IntKind.u64.wrap ((b : Int) * 2) / 9007199254740992 = ((Fl.rg b / 4503599627370496 : Nat) : Int) := by
  rw [bits_shl]
  omega

def partsN (r : Nat) : Nat := if r = 0 then 0 else txtN r
def partsE (r : Nat) : Int := if r = 0 then 0 else txtE r

theorem parts_ret (m : Nat) (x y : Int) (h : x = y) : Value.tuple #[.int .u64 m, .int .i64 x] = .tuple #[.int .u64 m, .int .i64 y] := by rw [h]
theorem strip_step {n m k : Nat} (h : m % 2 = 0) (e : Hid (n = m * 2 ^ k)) : Hid (n = (m / 2) * 2 ^ (k + 1)) := by
  show _ = _
  rw [e.out, Nat.pow_succ, Nat.mul_comm (2 ^ k) 2, ← Nat.mul_assoc]
  congr 1; omega
theorem strip_bounds {n m j : Nat} (hn : n ≤ 9007199254740992) (hm : 1 ≤ m) (e : n = m * 2 ^ j) : m ≤ 9007199254740992 ∧ j ≤ 53 := by
  have hp := Nat.two_pow_pos j
  constructor
  · have : m ≤ m * 2 ^ j := Nat.le_mul_of_pos_right _ hp
    omega
  · have h2 : 2 ^ j ≤ m * 2 ^ j := Nat.le_mul_of_pos_left _ hm
    have h3 : 2 ^ j ≤ 2 ^ 53 := by omega
    exact (Nat.pow_le_pow_iff_right (by omega : 1 < 2)).1 h3

set_option maxRecDepth 100000 in
set_option maxHeartbeats 1000000 in
theorem rparts_any (b : Nat) (hf : Fl.rg b < 9218868437227405312) (w : World) :
    Calls Tryd.prog 20 #[.float .f64 b] w fun e w' => e = .returned (.tuple #[.int .u64 (partsN (Fl.rg b)), .int .i64 (partsE (Fl.rg b))]) ∧ w = w' := by
  have HN := Lib.hid (partsN.eq_def (Fl.rg b))
  have HE := Lib.hid (partsE.eq_def (Fl.rg b))
  have hbr := bits_run
  have s1 := shl12 b
  have s2 := shl1 b
  have HM := Lib.hid (show Fl.mag (Fl.rg b) = if Fl.rg b < 4503599627370496 then Fl.rg b else 4503599627370496 + Fl.rg b % 4503599627370496 from rfl)
  have HP := Lib.hid (show Fl.plc (Fl.rg b) = if Fl.rg b < 4503599627370496 then 0 else Fl.rg b / 4503599627370496 - 1 from rfl)
  have hmo := @mag_ne (Fl.rg b)
  have HTN := Lib.hid (show txtN (Fl.rg b) = odd (Fl.mag (Fl.rg b)) from rfl)
  have HTE := Lib.hid (show txtE (Fl.rg b) = (tz (Fl.mag (Fl.rg b)) : Int) + Fl.plc (Fl.rg b) - 1074 from rfl)
  have HML := Lib.hid (Fl.mag_lt (Fl.rg b))
  have hpl := Fl.plc_le hf
  generalize Fl.rg b = r at *
  have hq : r / 4503599627370496 < 2047 := by omega
  have hm0 : r % 4503599627370496 < 4503599627370496 := Nat.mod_lt _ (by omega)
  -- the magnitude and its place, as the code has them
  by_cases h0 : r = 0
  · subst h0
    rw [if_pos rfl] at HN HE
    have s3 : IntKind.u64.wrap ((b : Int) * 4096) / 4096 = 0 := s1
    have s4 : IntKind.u64.wrap ((b : Int) * 2) / 9007199254740992 = 0 := s2
    clear s1 s2 hq hm0 hpl hmo hf
    go_enter Tryd.func20, Tryd.ntmps20
    go_wp2
    go_ret2
    exact ⟨ret_val (by rw [HN.out, HE.out]; rfl), rfl⟩
  · rw [if_neg h0] at HN HE
    have hmne := hmo h0
    have HMN := Lib.hid hmne
    clear hmo hmne
    generalize Fl.mag r = m0 at *
    generalize Fl.plc r = p0 at *
    by_cases hs : r < 4503599627370496
    · rw [if_pos hs] at HM HP
      have s3 : IntKind.u64.wrap ((b : Int) * 4096) / 4096 = (m0 : Int) := by rw [s1, HM.out]; omega
      have s4 : IntKind.u64.wrap ((b : Int) * 2) / 9007199254740992 = 0 := by rw [s2]; omega
      have hz : ((m0 : Int) == 0) = false := by have := HMN.out; simp; exact this
      have hlt : m0 < 9007199254740992 := HML.out
      clear s1 s2 hq hm0 hf h0 hs
      go_enter Tryd.func20, Tryd.ntmps20
      go_wp2
      go_loop [5, 6] (fun mv ev => ∃ k m : Nat, 1 ≤ m ∧ Hid (m0 = m * 2 ^ k) ∧ ev = .int .i64 (-1074 + k) ∧ mv = .int .u64 m) (fun mv _ => (intOf mv).toNat)
      case atStart => exact ⟨0, m0, by have := HMN.out; omega, by show _ = _; simp, rfl, rfl⟩
      case round =>
        obtain ⟨k, m, hm1, hkm, rfl, rfl⟩ := hrel
        obtain ⟨hb1, hb2⟩ := strip_bounds (by omega) hm1 hkm.out
        by_cases hp : m % 2 = 0
        · have ht : ((m : Int) % 2 == 0) = true := by simp; omega
          have HP2 := Lib.hid hp; clear hp
          go_wp2
          go_round
          case rel => exact ⟨k + 1, m / 2, by have := HP2.out; omega, strip_step HP2.out hkm, by go_num, by congr 1⟩
          case measure => simp [intOf]; omega
        · have ht : ((m : Int) % 2 == 0) = false := by simp; omega
          have HF := Lib.hid (odd_of (show m % 2 = 1 by omega) hkm.out (by omega))
          clear hp
          go_wp2
          go_ret2
          exact ⟨ret_val (by rw [HN.out, HE.out, HTN.out, HTE.out, HF.out.1, HF.out.2, HP.out]; exact parts_ret _ _ _ (by omega)), rfl⟩
    · rw [if_neg hs] at HM HP
      obtain ⟨q, hqe⟩ : ∃ q, q = r / 4503599627370496 := ⟨_, rfl⟩
      obtain ⟨f, hfe⟩ : ∃ f, f = r % 4503599627370496 := ⟨_, rfl⟩
      rw [← hfe] at s1 hm0 HM
      rw [← hqe] at s2 hq HP
      have hq1 : 1 ≤ q := by omega
      have hz1 : ((q : Int) - 1075 == -1075) = false := by simp; omega
      have hz : ((f : Int) + 4503599627370496 == 0) = false := by simp; omega
      have HQE := Lib.hid hqe
      clear hqe hfe hf h0 hs hpl
      have hlt : m0 < 9007199254740992 := HML.out
      go_enter Tryd.func20, Tryd.ntmps20
      go_wp2
      go_loop [5, 6] (fun mv ev => ∃ k m : Nat, 1 ≤ m ∧ Hid (m0 = m * 2 ^ k) ∧ ev = .int .i64 ((q : Int) - 1075 + k) ∧ mv = .int .u64 m) (fun mv _ => (intOf mv).toNat)
      case atStart => exact ⟨0, m0, by have := HMN.out; omega, by show _ = _; simp, by congr 1; omega, by rw [HM.out]; congr 1; omega⟩
      case round =>
        obtain ⟨k, m, hm1, hkm, rfl, rfl⟩ := hrel
        obtain ⟨hb1, hb2⟩ := strip_bounds (by omega) hm1 hkm.out
        by_cases hp : m % 2 = 0
        · have ht : ((m : Int) % 2 == 0) = true := by simp; omega
          have HP2 := Lib.hid hp; clear hp
          go_wp2
          go_round
          case rel => exact ⟨k + 1, m / 2, by have := HP2.out; omega, strip_step HP2.out hkm, by go_num, by congr 1⟩
          case measure => simp [intOf]; omega
        · have ht : ((m : Int) % 2 == 0) = false := by simp; omega
          have HF := Lib.hid (odd_of (show m % 2 = 1 by omega) hkm.out (by omega))
          clear hp
          go_wp2
          go_ret2
          exact ⟨ret_val (by rw [HN.out, HE.out, HTN.out, HTE.out, HF.out.1, HF.out.2, HP.out]; exact parts_ret _ _ _ (by omega)), rfl⟩


/-- one more digit ahead -/
theorem dig_step {n0 m : Nat} {t : List UInt8} (h : Hid (Lib.decDigits n0 = Lib.decDigits m ++ t)) (hm : 10 ≤ m) : Hid (Lib.decDigits n0 = Lib.decDigits (m / 10) ++ (UInt8.ofNat (48 + m % 10) :: t)) := by
  show _ = _
  rw [h.out]
  conv => lhs; rw [Lib.decDigits, dif_neg (by omega)]
  simp
theorem dig_last {n0 m : Nat} {t : List UInt8} (h : Hid (Lib.decDigits n0 = Lib.decDigits m ++ t)) (hm : m < 10) : Lib.decDigits n0 = UInt8.ofNat (48 + m % 10) :: t := by
  rw [h.out]
  conv => lhs; rw [Lib.decDigits, dif_pos hm]
  rw [show m % 10 = m by omega]; rfl
theorem dig_len {n0 m : Nat} {t : List UInt8} (h : Hid (Lib.decDigits n0 = Lib.decDigits m ++ t)) (hn : n0 < 18446744073709551616) : t.length ≤ 20 := by
  have := dec_len n0 hn
  rw [h.out, List.length_append] at this; omega
theorem join1 (c : UInt8) (t : List UInt8) : Value.string (({ data := #[c] } : ByteArray) ++ { data := t.toArray }) = .string ⟨(c :: t).toArray⟩ := by
  congr 1

theorem conv_one (m : Nat) (wr : World) : (convert 22 9 (.slice (some ⟨wr.heap.size, 0, none⟩) 1 1)).run Tryd.prog (wr.alloc (.cells #[.int .u8 (48 + (m : Int) % 10)] 5)) = .ok (.string ⟨#[UInt8.ofNat (48 + m % 10)]⟩) (wr.alloc (.cells #[.int .u8 (48 + (m : Int) % 10)] 5)) := by
  have h := run_convert_bytes_back (P := Tryd.prog) (wr.alloc (.cells #[.int .u8 (48 + (m : Int) % 10)] 5)) 22 9 5 ⟨wr.heap.size, 0, none⟩ 1 [UInt8.ofNat (48 + m % 10)] Tryd.underlying22 Tryd.underlying5 Tryd.underlying9 (fun j hj => by
    have : j = 0 := by simpa using hj
    subst this
    rw [Lib.add_plain, World.cell?_alloc_new]
    simp only [List.getElem_cons_zero]
    rw [dig_ofNat (show m % 10 < 10 by omega)]
    simp)
  exact h

set_option maxRecDepth 100000 in
set_option maxHeartbeats 1000000 in
theorem rdigits_any (n : Nat) (hn : n < 18446744073709551616) (w : World) :
    Calls Tryd.prog 10 #[.int .u64 n] w fun e w' => e = .returned (.string ⟨(Lib.decDigits n).toArray⟩) ∧ Below w.heap.size w w' := by
  have HN := Lib.hid hn; clear hn
  go_enter Tryd.func10, Tryd.ntmps10
  go_wp2
  go_loopw [0, 3] (fun mv sv wr => ∃ (m : Nat) (t : List UInt8), m ≤ n ∧ Hid (Lib.decDigits n = Lib.decDigits m ++ t) ∧ mv = .int .u64 m ∧ sv = .string ⟨t.toArray⟩ ∧ Below w.heap.size w wr) (fun mv _ _ => (intOf mv).toNat)
  case atStart => exact ⟨n, [], Nat.le_refl _, by show _ = _; simp, rfl, rfl, Below.refl _ _⟩
  case round =>
    obtain ⟨m, t, hmn, ht, rfl, rfl, hbel⟩ := hrel
    have htl := dig_len ht HN.out
    have hcv := conv_one m wr
    generalize hc : UInt8.ofNat (48 + m % 10) = c at hcv
    have HC := Lib.hid hc; clear hc
    have hml := Nat.lt_of_le_of_lt hmn HN.out
    by_cases h10 : m < 10
    · have hz : ((m : Int) / 10 == 0) = true := by simp; omega
      have HL := Lib.hid (dig_last ht h10)
      clear h10
      go_wp2
      go_ret
      exact ⟨ret_val (by rw [HL.out, HC.out]; exact join1 _ _), hbel.alloc hbel.size _⟩
    · have hz : ((m : Int) / 10 == 0) = false := by simp; omega
      have HS := Lib.hid (dig_step ht (by omega))
      go_wp2
      go_roundw
      case rel => exact ⟨m / 10, c :: t, by omega, by rw [← HC.out]; exact HS.out, by congr 1, join1 _ _, hbel.alloc hbel.size _⟩
      case measure => simp [intOf]; omega

theorem parts_bounds {r : Nat} (h : r < 9218868437227405312) : partsN r < 9007199254740992 ∧ -1074 ≤ partsE r ∧ partsE r ≤ 1023 := by
  unfold partsN partsE
  by_cases h0 : r = 0
  · rw [if_pos h0, if_pos h0]; omega
  · rw [if_neg h0, if_neg h0]
    obtain ⟨a, b, c, _⟩ := txt_bounds h0 h
    have := c.1; have := c.2
    omega
theorem textB_parts {b : Nat} (h : Fl.rg b < 9218868437227405312) : textB b = (if Fl.ng b then [45] else []) ++ (Lib.decDigits (partsN (Fl.rg b)) ++ 112 :: Lib.itoa (partsE (Fl.rg b))) := by
  have hn : Fl.isNaN b = false := by unfold Fl.isNaN; simp; omega
  unfold textB partsN partsE
  rw [hn, if_neg (show Fl.rg b ≠ 9218868437227405312 by omega)]
  by_cases h0 : Fl.rg b = 0
  · rw [if_pos h0, if_pos h0, if_pos h0]
    have e0 : Lib.decDigits 0 = [48] := by rw [Lib.decDigits]; rfl
    have e1 : Lib.itoa 0 = [48] := by unfold Lib.itoa; rw [if_neg (by omega), show (0 : Int).toNat = 0 from rfl, e0]
    rw [e0, e1]; rfl
  · rw [if_neg h0, if_neg h0, if_neg h0]; rfl
theorem itoa_neg' (k : Nat) (h : 1 ≤ k) : Lib.itoa (-(k : Int)) = 45 :: Lib.decDigits k := by
  unfold Lib.itoa; rw [if_pos (by omega)]; congr 2; omega
theorem itoa_pos' (k : Nat) : Lib.itoa (k : Int) = Lib.decDigits k := by
  unfold Lib.itoa; rw [if_neg (by omega)]; rfl
theorem join_neg (p a c : List UInt8) : Value.string ((({ data := p.toArray } ++ { data := a.toArray } ++ { data := #[112] } : ByteArray) ++ { data := #[45] }) ++ { data := c.toArray }) = .string ⟨(p ++ (a ++ 112 :: 45 :: c)).toArray⟩ := by
  congr 1
  apply ByteArray.ext
  simp

set_option maxRecDepth 100000 in
set_option maxHeartbeats 2000000 in
theorem rtext_fin (b : Nat) (hb : F64 b) (hf : Fl.rg b < 9218868437227405312) (w : World) :
    Calls Tryd.prog 11 #[.float .f64 b] w fun e w' => e = .returned (.string ⟨(textB b).toArray⟩) ∧ Below w.heap.size w w' := by
  have hn : Fl.isNaN b = false := by unfold Fl.isNaN; simp; omega
  have h1 := rnan_any b
  rw [hn] at h1
  have H1 := Lib.hid h1; clear h1
  have H2 := Lib.hid (rminus_any b hb)
  have H3 := Lib.hid (rparts_any b hf)
  have hbr := bits_run
  have hi : (IntKind.u64.wrap ((b : Int) * 2) == 18437736874454810624) = false := by rw [inf_bits]; simp; omega
  have HT := Lib.hid (textB_parts hf)
  obtain ⟨b1, b2, b3⟩ := parts_bounds hf
  clear hn hf
  generalize partsN (Fl.rg b) = m at *
  generalize partsE (Fl.rg b) = e at *
  have H4 := Lib.hid (rdigits_any m (by omega))
  have l1 := dec_len m (by omega)
  by_cases he : e < 0
  · obtain ⟨k, rfl⟩ : ∃ k : Nat, e = -(k : Int) := ⟨(-e).toNat, by omega⟩
    rw [itoa_neg' k (by omega)] at HT
    have H5 := Lib.hid (rdigits_any k (by omega))
    have l2 := dec_len k (by omega)
    cases hg : Fl.ng b
    all_goals
      rw [hg] at H2 HT
      go_enter Tryd.func11, Tryd.ntmps11
      go_wp2_with (first
        | (go_at_call 19; refine (H1.out _).mono ?_; rintro e w' ⟨rfl, rfl⟩)
        | (go_at_call 18; refine (H2.out _).mono ?_; rintro e w' ⟨rfl, rfl⟩)
        | (go_at_call 20; refine (H3.out _).mono ?_; rintro e w' ⟨rfl, rfl⟩))
      refine (H4.out _).mono ?_; rintro e w1 ⟨rfl, hw1⟩
      go_wp2_with fail
      refine (H5.out _).mono ?_; rintro e w2 ⟨rfl, hw2⟩
      go_wp2_with fail
      go_ret
      exact ⟨ret_val (by rw [HT.out]; exact join_neg _ _ _), below_tr hw1 hw2⟩
  · obtain ⟨k, rfl⟩ : ∃ k : Nat, e = (k : Int) := ⟨e.toNat, by omega⟩
    rw [itoa_pos' k] at HT
    have H5 := Lib.hid (rdigits_any k (by omega))
    have l2 := dec_len k (by omega)
    cases hg : Fl.ng b
    all_goals
      rw [hg] at H2 HT
      go_enter Tryd.func11, Tryd.ntmps11
      go_wp2_with (first
        | (go_at_call 19; refine (H1.out _).mono ?_; rintro e w' ⟨rfl, rfl⟩)
        | (go_at_call 18; refine (H2.out _).mono ?_; rintro e w' ⟨rfl, rfl⟩)
        | (go_at_call 20; refine (H3.out _).mono ?_; rintro e w' ⟨rfl, rfl⟩))
      refine (H4.out _).mono ?_; rintro e w1 ⟨rfl, hw1⟩
      go_wp2_with fail
      refine (H5.out _).mono ?_; rintro e w2 ⟨rfl, hw2⟩
      go_wp2_with fail
      go_ret
      exact ⟨ret_val (by rw [HT.out]; exact text_join _ _ _), below_tr hw1 hw2⟩

set_option maxRecDepth 100000 in
set_option maxHeartbeats 1000000 in
theorem rtext_inf (b : Nat) (hb : F64 b) (hf : Fl.rg b = 9218868437227405312) (w : World) :
    Calls Tryd.prog 11 #[.float .f64 b] w fun e w' => e = .returned (.string ⟨(textB b).toArray⟩) ∧ Below w.heap.size w w' := by
  have hn : Fl.isNaN b = false := by unfold Fl.isNaN; rw [hf]; rfl
  have h1 := rnan_any b
  rw [hn] at h1
  have H1 := Lib.hid h1; clear h1
  have H2 := Lib.hid (rminus_any b hb)
  have hbr := bits_run
  have hi : (IntKind.u64.wrap ((b : Int) * 2) == 18437736874454810624) = true := by rw [inf_bits, hf]; rfl
  have HT := Lib.hid (textB.eq_def b)
  rw [hn, if_pos hf] at HT
  clear hn hf
  cases hg : Fl.ng b
  all_goals
    rw [hg] at H2 HT
    go_enter Tryd.func11, Tryd.ntmps11
    go_wp2_with (first
      | (go_at_call 19; refine (H1.out _).mono ?_; rintro e w' ⟨rfl, rfl⟩)
      | (go_at_call 18; refine (H2.out _).mono ?_; rintro e w' ⟨rfl, rfl⟩))
    go_ret
    exact ⟨ret_val (by rw [HT.out]; rfl), Below.refl _ _⟩

set_option maxRecDepth 100000 in
set_option maxHeartbeats 1000000 in
theorem rtext_nan (b : Nat) (hb : F64 b) (hn : Fl.isNaN b = true) (w : World) :
    Calls Tryd.prog 11 #[.float .f64 b] w fun e w' => e = .returned (.string ⟨(textB b).toArray⟩) ∧ Below w.heap.size w w' := by
  have h1 := rnan_any b
  rw [hn] at h1
  have H1 := Lib.hid h1; clear h1
  have H2 := Lib.hid (rminus_any b hb)
  have HT := Lib.hid (textB.eq_def b)
  rw [hn] at HT
  clear hn
  cases hg : Fl.ng b
  all_goals
    rw [hg] at H2
    go_enter Tryd.func11, Tryd.ntmps11
    go_wp2_with (first
      | (go_at_call 19; refine (H1.out _).mono ?_; rintro e w' ⟨rfl, rfl⟩)
      | (go_at_call 18; refine (H2.out _).mono ?_; rintro e w' ⟨rfl, rfl⟩))
    go_ret
    exact ⟨ret_val (by rw [HT.out]; rfl), Below.refl _ _⟩

theorem rtext_any (b : Nat) (hb : F64 b) (w : World) :
    Calls Tryd.prog 11 #[.float .f64 b] w fun e w' => e = .returned (.string ⟨(textB b).toArray⟩) ∧ Below w.heap.size w w' := by
  by_cases hn : Fl.isNaN b = true
  · exact rtext_nan b hb hn w
  · have := nan_lt (show Fl.isNaN b = false by simpa using hn)
    by_cases hi : Fl.rg b = 9218868437227405312
    · exact rtext_inf b hb hi w
    · exact rtext_fin b hb (by omega) w
end Go.Proofs.YtkcbkfflabkcgaaDoor
