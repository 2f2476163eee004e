/-
  The walk of the codec's reader of numbers.
-/
import Derived.Test.YtnaamiecljinnaaGreatC2
import Derived.Laws.Bits64b
namespace Go.Proofs.YtnaamiecljinnaaGreat
open Go.RowKit

/-- what a reader's call leaves: a value and its place, or it gave up -/
def RdPost (b : Nat) (s : ByteArray) (q : Nat) (w : World) (r : Option (Value × List UInt8)) (e : Ending) (w' : World) : Prop :=
  match r with
  | some v => e = .returned v.1 ∧ RdB b s (s.size - v.2.length) q w' ∧ Fr [b] w w'
  | none => (∃ x, x ≠ 0 ∧ e = gave x) ∧ Fr [b] w w'
def onN (f : Nat → Value) : Option (Nat × List UInt8) → Option (Value × List UInt8)
  | none => none
  | some r => some (f r.1, r.2)
/-- a number's first bits, and what is read behind them -/
def addU (a i : Nat) : Option (Nat × List UInt8) → Option (Nat × List UInt8)
  | none => none
  | some r => some (a + 128 ^ i * r.1, r.2)
theorem addU_zero (r : Option (Nat × List UInt8)) : addU 0 0 r = r := by
  cases r with
  | none => rfl
  | some r => simp [addU]
theorem rdUF_nil {f : Nat} {l : List UInt8} {k : Nat} (h : l.length ≤ k) : rdUF f (l.drop k) = none := by
  rw [List.drop_eq_nil_of_le h]
  cases f <;> rfl
theorem drop_byte {l : List UInt8} {k : Nat} (h : k < l.length) : l.drop k = l.getD k 0 :: l.drop (k + 1) := by
  have e : l.getD k 0 = l[k] := by simp [List.getD, h]
  rw [List.drop_eq_getElem_cons h, e]
theorem rdUF_bad {f k : Nat} {l : List UInt8} (hk : k < l.length) (h : (f = 0 ∧ 1 < (l.getD k 0).toNat) ∨ (f < 9 ∧ (l.getD k 0).toNat = 0)) : rdUF (f + 1) (l.drop k) = none := by
  rw [drop_byte hk, rdUF, if_pos h]
theorem rdUF_end {f k : Nat} {l : List UInt8} (hk : k < l.length) (h : ¬ ((f = 0 ∧ 1 < (l.getD k 0).toNat) ∨ (f < 9 ∧ (l.getD k 0).toNat = 0))) (h2 : (l.getD k 0).toNat < 128) : rdUF (f + 1) (l.drop k) = some ((l.getD k 0).toNat, l.drop (k + 1)) := by
  rw [drop_byte hk, rdUF, if_neg h, if_pos h2]
theorem rdUF_go {f k : Nat} {l : List UInt8} (hk : k < l.length) (h : ¬ ((f = 0 ∧ 1 < (l.getD k 0).toNat) ∨ (f < 9 ∧ (l.getD k 0).toNat = 0))) (h2 : ¬ (l.getD k 0).toNat < 128) :
    rdUF (f + 1) (l.drop k) = (match rdUF f (l.drop (k + 1)) with | none => none | some r => some ((l.getD k 0).toNat % 128 + 128 * r.1, r.2)) := by
  rw [drop_byte hk, rdUF, if_neg h, if_neg h2]
  rfl

theorem and_127 : ∀ k : Nat, k < 256 → bits .and .u8 (k : Int) 127 = ((k % 128 : Nat) : Int) := by decide +kernel
theorem pow_128 (i : Nat) : (2 : Nat) ^ (7 * i) = 128 ^ i := by rw [Nat.pow_mul]
theorem bits7 {i a c : Nat} (hi : i ≤ 9) (ha : a < 128 ^ i) (hc : c < 256) (h9 : i = 9 → c ≤ 1) :
    bits .or .u64 (a : Int) (IntKind.u64.wrap (IntKind.u64.wrap (bits .and .u8 (c : Int) 127) * 2 ^ (7 * i))) = ((a + 128 ^ i * (c % 128) : Nat) : Int) := by
  have hp : 128 ^ i ≤ 128 ^ 9 := Nat.pow_le_pow_right (by omega) hi
  have hm : 128 ^ i * (c % 128) < 18446744073709551616 := by
    by_cases h : i = 9
    · subst h; have := h9 rfl; have : c % 128 ≤ 1 := by omega
      calc 128 ^ 9 * (c % 128) ≤ 128 ^ 9 * 1 := Nat.mul_le_mul_left _ this
        _ < 18446744073709551616 := by decide
    · have h8 : 128 ^ i ≤ 128 ^ 8 := Nat.pow_le_pow_right (by omega) (by omega)
      have h7 : c % 128 ≤ 127 := by omega
      calc 128 ^ i * (c % 128) ≤ 128 ^ 8 * 127 := Nat.mul_le_mul h8 h7
        _ < 18446744073709551616 := by decide
  have ha2 : a < 18446744073709551616 := Nat.lt_of_lt_of_le ha (Nat.le_trans hp (by decide))
  rw [and_127 c hc]
  have e1 : IntKind.u64.wrap ((c % 128 : Nat) : Int) = ((c % 128 : Nat) : Int) := by rw [IntKind.wrap_u64]; omega
  have e2 : ((c % 128 : Nat) : Int) * 2 ^ (7 * i) = ((128 ^ i * (c % 128) : Nat) : Int) := by
    rw [Int.natCast_mul, ← pow_128, Int.natCast_pow, Int.mul_comm]; rfl
  have e3 : IntKind.u64.wrap ((128 ^ i * (c % 128) : Nat) : Int) = ((128 ^ i * (c % 128) : Nat) : Int) := by rw [IntKind.wrap_u64]; omega
  rw [e1, e2, e3, bits_or_u64_nat a _ ha2 hm]
  congr 1
  have h := Nat.shiftLeft_add_eq_or_of_lt (i := 7 * i) (b := a) (by rw [pow_128]; exact ha) (c % 128)
  rw [Nat.shiftLeft_eq, pow_128] at h
  rw [Nat.or_comm, Nat.mul_comm, ← h]
  omega
theorem addU_end {a i c : Nat} {r : List UInt8} (h : c < 128) : addU a i (some (c, r)) = some (a + 128 ^ i * (c % 128), r) := by
  rw [Nat.mod_eq_of_lt h]; rfl
theorem addU_go (a i c : Nat) (r : Option (Nat × List UInt8)) : addU a i (match r with | none => none | some r => some (c % 128 + 128 * r.1, r.2)) = addU (a + 128 ^ i * (c % 128)) (i + 1) r := by
  cases r with
  | none => rfl
  | some r =>
    simp only [addU, Option.some.injEq, Prod.mk.injEq, and_true]
    rw [Nat.pow_succ, Nat.mul_add, Nat.mul_assoc]
    omega
theorem acc_lt {a i c : Nat} (ha : a < 128 ^ i) : a + 128 ^ i * (c % 128) < 128 ^ (i + 1) := by
  have h7 : c % 128 ≤ 127 := by omega
  have := Nat.mul_le_mul_left (128 ^ i) h7
  rw [Nat.pow_succ]
  omega

set_option maxRecDepth 100000 in
set_option maxHeartbeats 4000000 in
theorem cuintR_any (s : ByteArray) (hs : s.size ≤ 1000000) (b k q : Nat) (hk : k ≤ s.size) (w : World) (hb : RdB b s k q w) :
    Calls Tryz.prog 115 #[.pointer (some ⟨b, 0, none⟩)] w (RdPost b s q w (onN (fun n => .int .u64 (n : Int)) (rdU (s.data.toList.drop k)))) := by
  have hl : s.data.toList.length = s.size := by simp
  have HL := Lib.hid hl; clear hl
  have HN := Lib.hid (fun k hk w hb => cbyte_no s b k q hk w hb)
  have HY := Lib.hid (fun k hk w hb => cbyte_yes s (by omega) b k q hk w hb)
  have HMy := Lib.hid (cmust_yes 5)
  have HMn := Lib.hid (cmust_no 5)
  go_enter Tryz.func115, Tryz.ntmps115
  go_wp2_with fail
  go_loopw [2, 3] (fun nv iv wr => ∃ i a : Nat, nv = .int .u64 (a : Int) ∧ iv = .int .i64 (i : Int) ∧ i ≤ 9 ∧ a < 128 ^ i ∧ k + i ≤ s.size ∧ RdB b s (k + i) q wr ∧ Fr [b] w wr ∧ Hid (rdU (s.data.toList.drop k) = addU a i (rdUF (10 - i) (s.data.toList.drop (k + i))))) (fun _ iv _ => 10 - (intOf iv).toNat)
  case atStart => exact ⟨0, 0, rfl, rfl, by omega, by omega, by omega, hb, Fr.refl _ _, by show _ = _; rw [addU_zero]; rfl⟩
  case round =>
    obtain ⟨i, a, rfl, rfl, hi, ha, hki, hrd, hfr, hE⟩ := hrel
    by_cases hlt : k + i < s.size
    · have hg : (s[k + i]'hlt) = s.data.toList.getD (k + i) 0 := by simp [List.getD, hlt]; rfl
      have HYY := Lib.hid (HY.out (k + i) hlt wr hrd)
      have HG := Lib.hid hg; clear hg
      have hc := (s[k + i]'hlt).toNat_lt
      generalize s[k + i]'hlt = c at *
      have t10 : decide ((i : Int) < 10) = true := by simp; omega
      by_cases hbad : (i = 9 ∧ 1 < c.toNat) ∨ (0 < i ∧ c.toNat = 0)
      · have hb2 := rdUF_bad (f := 9 - i) (k := k + i) (l := s.data.toList) (by rw [HL.out]; exact hlt) (by rw [← HG.out]; omega)
        rw [show 9 - i + 1 = 10 - i by omega] at hb2
        have HB := Lib.hid hb2; clear hb2
        have hcase : (decide ((i : Int) < 9) = false ∧ decide ((c.toNat : Int) ≤ 1) = false) ∨ (decide ((i : Int) < 9) = true ∧ ((i : Int) == 0) = false ∧ ((c.toNat : Int) != 0) = false) ∨ (decide ((i : Int) < 9) = false ∧ decide ((c.toNat : Int) ≤ 1) = true ∧ ((i : Int) == 0) = false ∧ ((c.toNat : Int) != 0) = false) := by
          simp; omega
        have HR := hE.out
        rw [HB.out] at HR
        have HR := Lib.hid HR
        clear hbad
        rcases hcase with ⟨t1, t2⟩ | ⟨t1, t3, t4⟩ | ⟨t1, t2, t3, t4⟩
        all_goals
          go_wp2_with fail
          refine (HYY.out).mono ?_; rintro e w1 ⟨rfl, hr1, hf1⟩
          go_wp2_with fail
          refine (HMn.out _).mono ?_; rintro e w2 ⟨rfl, rfl⟩
          go_wp2_with fail
          exact ⟨rfl, by rw [HR.out]; exact ⟨⟨5, by decide, rfl⟩, hfr.trans hf1⟩⟩
      · by_cases h128 : c.toNat < 128
        · have t5 : decide ((c.toNat : Int) < 128) = true := by simp; omega
          have hb2 := rdUF_end (f := 9 - i) (k := k + i) (l := s.data.toList) (by rw [HL.out]; exact hlt) (by rw [← HG.out]; omega) (by rw [← HG.out]; exact h128)
          rw [show 9 - i + 1 = 10 - i by omega, ← HG.out] at hb2
          have HB := Lib.hid hb2; clear hb2
          have hcase : (decide ((i : Int) < 9) = true ∧ ((i : Int) == 0) = true) ∨ (decide ((i : Int) < 9) = true ∧ ((i : Int) == 0) = false ∧ ((c.toNat : Int) != 0) = true) ∨ (decide ((i : Int) < 9) = false ∧ decide ((c.toNat : Int) ≤ 1) = true ∧ ((i : Int) == 0) = false ∧ ((c.toNat : Int) != 0) = true) := by
            simp; omega
          have HX := Lib.hid (bits7 hi ha hc (by omega))
          clear hbad
          rcases hcase with ⟨t1, t3⟩ | ⟨t1, t3, t4⟩ | ⟨t1, t2, t3, t4⟩
          all_goals
            go_wp2_with fail
            refine (HYY.out).mono ?_; rintro e w1 ⟨rfl, hr1, hf1⟩
            go_wp2_with fail
            refine (HMy.out _).mono ?_; rintro e w2 ⟨rfl, rfl⟩
            go_wp2_with fail
            go_ret
            rw [hE.out, HB.out, addU_end h128]
            exact ⟨ret_val (congrArg (Value.int .u64) HX.out), by
              rw [show s.size - (s.data.toList.drop (k + i + 1)).length = k + i + 1 by rw [List.length_drop, HL.out]; omega]
              exact hr1, hfr.trans hf1⟩
        · have t5 : decide ((c.toNat : Int) < 128) = false := by simp; omega
          have hb2 := rdUF_go (f := 9 - i) (k := k + i) (l := s.data.toList) (by rw [HL.out]; exact hlt) (by rw [← HG.out]; omega) (by rw [← HG.out]; exact h128)
          rw [show 9 - i + 1 = 10 - i by omega, ← HG.out] at hb2
          have HB := Lib.hid hb2; clear hb2
          have h9 : i ≤ 8 := by omega
          have hcase : (decide ((i : Int) < 9) = true ∧ ((i : Int) == 0) = true) ∨ (decide ((i : Int) < 9) = true ∧ ((i : Int) == 0) = false ∧ ((c.toNat : Int) != 0) = true) := by
            simp; omega
          have HX := Lib.hid (bits7 hi ha hc (by omega))
          clear hbad
          rcases hcase with ⟨t1, t3⟩ | ⟨t1, t3, t4⟩
          all_goals
            go_wp2_with fail
            refine (HYY.out).mono ?_; rintro e w1 ⟨rfl, hr1, hf1⟩
            go_wp2_with fail
            refine (HMy.out _).mono ?_; rintro e w2 ⟨rfl, rfl⟩
            go_wp2_with fail
            go_roundw
            case rel => exact ⟨i + 1, a + 128 ^ i * (c.toNat % 128), congrArg (Value.int .u64) HX.out, by go_num, by omega, acc_lt ha, by omega, hr1, hfr.trans hf1, by show _ = _; rw [hE.out, HB.out, addU_go, show 10 - (i + 1) = 9 - i by omega]; rfl⟩
            case measure => simp [intOf]; omega
    · have HB := Lib.hid (rdUF_nil (f := 10 - i) (l := s.data.toList) (k := k + i) (by rw [HL.out]; omega))
      have HNN := Lib.hid (HN.out (k + i) (by omega) wr hrd)
      go_wp2_with fail
      refine (HNN.out).mono ?_; rintro e w1 ⟨rfl, hf1⟩
      go_wp2_with fail
      exact ⟨rfl, by rw [hE.out, HB.out]; exact ⟨⟨14, by decide, rfl⟩, hfr.trans hf1⟩⟩
end Go.Proofs.YtnaamiecljinnaaGreat
