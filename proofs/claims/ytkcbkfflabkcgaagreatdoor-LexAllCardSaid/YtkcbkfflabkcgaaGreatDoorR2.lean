/-
  The walk of the references' made: a sign, a number and a power as a float.
-/
import Derived.Test.YtkcbkfflabkcgaaGreatDoorR1
import Derived.Test.YtkcbkfflabkcgaaGreatDoorFq
namespace Go.Proofs.YtkcbkfflabkcgaaGreatDoor
open Go.RowKit Ieee

def madeV (neg : Bool) (m : Nat) (e : Int) : Nat := if 9007199254740992 < m then 0 else exB neg m e
def madeE (m : Nat) (e : Int) : Int := if 9007199254740992 < m then 3 else exE m e

/-- the loop that doubles: where it ends -/
theorem double_end {o t : Nat} {e : Int} (ho : o ≠ 0) (hl : o < 9007199254740992) (ht : (t : Int) ≤ e + 1074) (hlog : t + o.log2 ≤ 52) (hend : 4503599627370496 ≤ o * 2 ^ t ∨ e - t = -1074) :
    Fl.lastOf o e = e - t ∧ Fl.rungOf o e = (e - t + 1074).toNat * 4503599627370496 + o * 2 ^ t ∧ (o * 2 ^ t < 4503599627370496 → e - t = -1074) ∧ (e - t + 1075 ≤ 2046 ↔ e + o.log2 ≤ 1023) := by
  have h52 := Fl.log2_lt53 ho hl
  have hup : o * 2 ^ t < 2 ^ (o.log2 + 1 + t) := by
    rw [Nat.pow_add]; exact Nat.mul_lt_mul_of_pos_right Nat.lt_log2_self (Nat.two_pow_pos t)
  have hla : Fl.lastOf o e = e - t := by
    unfold Fl.lastOf
    rcases hend with h | h
    · have : 2 ^ 52 < 2 ^ (o.log2 + 1 + t) := Nat.lt_of_le_of_lt (by simpa using h) hup
      have := (Nat.pow_lt_pow_iff_right (by omega : 1 < 2)).1 this
      omega
    · omega
  refine ⟨hla, ?_, ?_, ?_⟩
  · unfold Fl.rungOf; rw [hla, show (e - (e - (t : Int))).toNat = t from by omega]
  · intro h; rcases hend with g | g
    · omega
    · exact g
  · rcases hend with h | h
    · have : 2 ^ 52 < 2 ^ (o.log2 + 1 + t) := Nat.lt_of_le_of_lt (by simpa using h) hup
      have := (Nat.pow_lt_pow_iff_right (by omega : 1 < 2)).1 this
      omega
    · omega
theorem double_log {o t : Nat} (ho : o ≠ 0) (h : o * 2 ^ t < 4503599627370496) : t + 1 + o.log2 ≤ 52 := by
  have h1 : 2 ^ o.log2 ≤ o := Nat.log2_self_le ho
  have h2 : 2 ^ (o.log2 + t) ≤ o * 2 ^ t := by rw [Nat.pow_add]; exact Nat.mul_le_mul_right _ h1
  have h3 : 2 ^ (o.log2 + t) < 2 ^ 52 := by omega
  have := (Nat.pow_lt_pow_iff_right (by omega : 1 < 2)).1 h3
  omega
theorem double_step {o t m : Nat} (h : Hid (m = o * 2 ^ t)) : Hid (m * 2 = o * 2 ^ (t + 1)) := by
  show _ = _
  rw [h.out, Nat.pow_succ, Nat.mul_assoc]

set_option maxRecDepth 100000 in
set_option maxHeartbeats 2000000 in
theorem made_zero (neg : Bool) (e : Int) (w : World) :
    Calls Tryz.prog 45 #[.bool neg, .int .u64 0, .int .i64 e] w fun en w' => en = .returned (.tuple #[.float .f64 (madeV neg 0 e), .int .i64 (madeE 0 e)]) ∧ w = w' := by
  have HV := Lib.hid (show madeV neg 0 e = double.word neg 0 from rfl)
  have HE := Lib.hid (show madeE 0 e = 0 from rfl)
  have hg := frombits_run
  cases neg
  all_goals
    go_enter Tryz.func45, Tryz.ntmps45
    go_wp2
    go_loop [1, 2] (fun mv ev => mv = .int .u64 0 ∧ ev = .int .i64 e) (fun _ _ => 0)
    case atStart => exact ⟨rfl, rfl⟩
    case round =>
      obtain ⟨rfl, rfl⟩ := hrel
      go_wp2
      go_ret2
      exact ⟨ret_val (by rw [HV.out, HE.out]; rfl), rfl⟩

set_option maxRecDepth 100000 in
set_option maxHeartbeats 2000000 in
theorem made_big (neg : Bool) (m : Nat) (hm : 9007199254740992 < m) (e : Int) (w : World) :
    Calls Tryz.prog 45 #[.bool neg, .int .u64 m, .int .i64 e] w fun en w' => en = .returned (.tuple #[.float .f64 (madeV neg m e), .int .i64 (madeE m e)]) ∧ w = w' := by
  have HV := Lib.hid (show madeV neg m e = 0 from by unfold madeV; rw [if_pos hm])
  have HE := Lib.hid (show madeE m e = 3 from by unfold madeE; rw [if_pos hm])
  go_enter Tryz.func45, Tryz.ntmps45
  go_wp2
  go_ret2
  exact ⟨ret_val (by rw [HV.out, HE.out]; rfl), rfl⟩


theorem made_tup (a b : Nat) (h : a = b) : Value.tuple #[.float .f64 a, .int .i64 0] = .tuple #[.float .f64 b, .int .i64 0] := by rw [h]
theorem word_true (r : Nat) : double.word true r = r + 9223372036854775808 := by rw [Fl.word_eq, if_pos rfl, Nat.add_comm]
theorem made_not (o : Nat) (e : Int) (h : e < -1074) : ¬ rep o e := fun r => by have := r.1; omega
/-- what the code has at the end of the doubling, in its own words -/
theorem made_end {o t m : Nat} {e : Int} (ho : o ≠ 0) (hl : o < 9007199254740992) (hm : m = o * 2 ^ t) (ht : t = 0 ∨ (t : Int) ≤ e + 1074) (h1 : -1074 ≤ e) (hlog : t + o.log2 ≤ 52) (hend : 4503599627370496 ≤ m ∨ e - t = -1074) :
    m < 9007199254740992 ∧ -1074 ≤ e - t ∧ (m < 4503599627370496 → e - t = -1074) ∧ (e - t + 1075 ≤ 2046 ↔ rep o e) ∧
    (e - t + 1075 ≤ 2046 → (m < 4503599627370496 → Fl.rungOf o e = m) ∧ (4503599627370496 ≤ m → Fl.rungOf o e = (m - 4503599627370496) + (e - t + 1075).toNat * 4503599627370496)) := by
  have ht' : (t : Int) ≤ e + 1074 := by rcases ht with h | h <;> omega
  subst hm
  obtain ⟨a, b, c, d⟩ := double_end ho hl ht' hlog hend
  have hup : o * 2 ^ t < 2 ^ (o.log2 + 1 + t) := by
    rw [Nat.pow_add]; exact Nat.mul_lt_mul_of_pos_right Nat.lt_log2_self (Nat.two_pow_pos t)
  have h53 : 2 ^ (o.log2 + 1 + t) ≤ 2 ^ 53 := Nat.pow_le_pow_right (by omega) (by omega)
  refine ⟨by omega, by omega, c, ?_, ?_⟩
  · rw [d]; unfold rep; omega
  · intro hr
    rw [b]
    constructor
    · intro h; have := c h; omega
    · intro h; omega

set_option maxRecDepth 100000 in
set_option maxHeartbeats 4000000 in
theorem made_num (neg : Bool) (n : Nat) (h1 : 1 ≤ n) (hn : n ≤ 9007199254740992) (e : Int) (he1 : -10000 ≤ e) (he2 : e ≤ 10000) (w : World) :
    Calls Tryz.prog 45 #[.bool neg, .int .u64 n, .int .i64 e] w fun en w' => en = .returned (.tuple #[.float .f64 (madeV neg n e), .int .i64 (madeE n e)]) ∧ w = w' := by
  have HV := Lib.hid (show madeV neg n e = if rep (odd n) (e + tz n) then double.word neg (Fl.rungOf (odd n) (e + tz n)) else 0 from by unfold madeV exB; rw [if_neg (by omega), if_neg (by omega)])
  have HE := Lib.hid (show madeE n e = if rep (odd n) (e + tz n) then 0 else 3 from by unfold madeE exE; rw [if_neg (by omega), if_neg (by omega)])
  have hg := frombits_run
  have hbig : decide ((9007199254740992 : Int) < (n : Int)) = false := by simp; omega
  have hz0 : ((n : Int) == 0) = false := by simp; omega
  go_enter Tryz.func45, Tryz.ntmps45
  go_wp2
  go_loop [1, 2] (fun nv kv => ∃ j m : Nat, 1 ≤ m ∧ Hid (n = m * 2 ^ j) ∧ kv = .int .i64 (e + j) ∧ nv = .int .u64 m) (fun nv _ => (intOf nv).toNat)
  case atStart => exact ⟨0, n, by omega, by show _ = _; simp, by congr 1; omega, rfl⟩
  case round =>
    obtain ⟨j, m, hm1, hjm, rfl, rfl⟩ := hrel
    obtain ⟨hb1, hb2⟩ := strip_bounds hn hm1 hjm.out
    have hmz : ((m : Int) == 0) = false := by simp; omega
    by_cases hp : m % 2 = 0
    · have ht : ((m : Int) % 2 == 0) = true := by simp; omega
      have HP := Lib.hid hp; clear hp
      go_wp2
      go_round
      case rel => exact ⟨j + 1, m / 2, by have := HP.out; omega, strip_step HP.out hjm, by go_num, by congr 1⟩
      case measure => simp [intOf]; omega
    · have ht : ((m : Int) % 2 == 0) = false := by simp; omega
      have hodd : m % 2 = 1 := by omega
      obtain ⟨eo, et⟩ := odd_of hodd hjm.out (by omega)
      rw [eo, et] at HV HE
      clear eo et hp
      have hl := Lib.hid (show m < 9007199254740992 by omega)
      have hlg := Lib.hid (Fl.log2_lt53 (show m ≠ 0 by omega) hl.out)
      generalize hE0 : e + (j : Int) = e0 at *
      have hr1 : -10000 ≤ e0 := by omega
      have hr2 : e0 ≤ 10100 := by omega
      clear hE0 hjm hodd hb1 hb2 he1 he2 hbig hz0 hn h1
      go_wp2
      go_loop [1, 2] (fun nv kv => ∃ t x : Nat, x < 9007199254740992 ∧ 1 ≤ x ∧ Hid (x = m * 2 ^ t) ∧ kv = .int .i64 (e0 - t) ∧ nv = .int .u64 x ∧ (t = 0 ∨ (t : Int) ≤ e0 + 1074) ∧ Hid (t + m.log2 ≤ 52)) (fun _ kv => (intOf kv + 1074).toNat)
      case atStart => exact ⟨0, m, hl.out, hm1, by show _ = _; simp, by congr 1; omega, rfl, .inl rfl, by have := hlg.out; show _ ≤ _; omega⟩
      case round =>
        obtain ⟨t, x, hx, hx1, hxe, rfl, rfl, ht0, htl⟩ := hrel
        by_cases hlow : e0 < -1074
        · have hts : t = 0 := by rcases ht0 with h | h <;> omega
          rw [if_neg (made_not m e0 hlow)] at HV HE
          have k1 : decide ((-1074 : Int) < e0 - (t : Int)) = false := by simp; omega
          have k2 : decide (e0 - (t : Int) < -1074) = true := by simp; omega
          by_cases hx52 : x < 4503599627370496
          · have k3 : decide ((x : Int) < 4503599627370496) = true := by simp; omega
            clear hx52 ht0 hts hlow hxe htl
            go_wp2
            go_ret2
            exact ⟨ret_val (by rw [HV.out, HE.out]; rfl), rfl⟩
          · have k3 : decide ((x : Int) < 4503599627370496) = false := by simp; omega
            clear hx52 ht0 hts hlow hxe htl
            go_wp2
            go_ret2
            exact ⟨ret_val (by rw [HV.out, HE.out]; rfl), rfl⟩
        · have hte : e0 - (t : Int) ≥ -1074 := by rcases ht0 with h | h <;> omega
          have k2 : decide (e0 - (t : Int) < -1074) = false := by simp; omega
          by_cases hgo : x < 4503599627370496 ∧ -1074 < e0 - (t : Int)
          · have k3 : decide ((x : Int) < 4503599627370496) = true := by simp; omega
            have k1 : decide ((-1074 : Int) < e0 - (t : Int)) = true := by simp; omega
            have hds := double_step hxe
            have hdl := double_log (o := m) (t := t) (by omega) (by rw [← hxe.out]; exact hgo.1)
            go_wp2
            go_round
            case rel => exact ⟨t + 1, x * 2, by omega, by omega, hds, by go_num, by go_num, .inr (by omega), by show _ ≤ _; omega⟩
            case measure => simp [intOf]; omega
          · obtain ⟨q1, q2, q3, q4, q5⟩ := made_end (show m ≠ 0 by omega) hl.out hxe.out ht0 (by omega) htl.out (by omega)
            by_cases hbig : e0 - (t : Int) + 1075 ≤ 2046
            · rw [if_pos (q4.1 hbig)] at HV HE
              have k4 : decide ((2046 : Int) < e0 - (t : Int) + 1075) = false := by simp; omega
              by_cases hx52 : x < 4503599627370496
              · have k3 : decide ((x : Int) < 4503599627370496) = true := by simp; omega
                have hxx := q3 hx52
                have HR := Lib.hid ((q5 hbig).1 hx52)
                rw [HR.out] at HV
                have k1 : decide ((-1074 : Int) < e0 - (t : Int)) = false := by simp; omega
                have k5 : (e0 - (t : Int) == -1074) = true := by simp; omega
                have k6 : decide ((4503599627370496 : Int) ≤ (x : Int)) = false := by simp; omega
                clear q3 q4 q5 hxe htl hgo
                cases neg
                · go_wp2
                  go_ret2
                  exact ⟨ret_val (by rw [HV.out, HE.out, word_false]; exact made_tup _ _ (by omega)), rfl⟩
                · go_wp2
                  go_ret2
                  exact ⟨ret_val (by rw [HV.out, HE.out, word_true]; exact made_tup _ _ (by omega)), rfl⟩
              · have k3 : decide ((x : Int) < 4503599627370496) = false := by simp; omega
                have k6 : decide ((4503599627370496 : Int) ≤ (x : Int)) = true := by simp; omega
                have HR := Lib.hid ((q5 hbig).2 (by omega))
                rw [HR.out] at HV
                clear q3 q4 q5 hxe htl hgo
                cases neg
                · go_wp2
                  go_ret2
                  exact ⟨ret_val (by rw [HV.out, HE.out, word_false]; exact made_tup _ _ (by omega)), rfl⟩
                · go_wp2
                  go_ret2
                  exact ⟨ret_val (by rw [HV.out, HE.out, word_true]; exact made_tup _ _ (by omega)), rfl⟩
            · rw [if_neg (fun r => hbig (q4.2 r))] at HV HE
              have k4 : decide ((2046 : Int) < e0 - (t : Int) + 1075) = true := by simp; omega
              by_cases hx52 : x < 4503599627370496
              · have k3 : decide ((x : Int) < 4503599627370496) = true := by simp; omega
                have hxx := q3 hx52
                omega
              · have k3 : decide ((x : Int) < 4503599627370496) = false := by simp; omega
                clear q3 q4 q5 hxe htl hgo
                go_wp2
                go_ret2
                exact ⟨ret_val (by rw [HV.out, HE.out]; rfl), rfl⟩

theorem made_any (neg : Bool) (n : Nat) (e : Int) (he1 : -10000 ≤ e) (he2 : e ≤ 10000) (w : World) :
    Calls Tryz.prog 45 #[.bool neg, .int .u64 n, .int .i64 e] w fun en w' => en = .returned (.tuple #[.float .f64 (madeV neg n e), .int .i64 (madeE n e)]) ∧ w = w' := by
  by_cases h0 : n = 0
  · subst h0; exact made_zero neg e w
  · by_cases hb : 9007199254740992 < n
    · exact made_big neg n hb e w
    · exact made_num neg n (by omega) (by omega) e he1 he2 w
end Go.Proofs.YtkcbkfflabkcgaaGreatDoor
