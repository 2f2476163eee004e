/-
  The walk of the references' FromInt.
-/
import Derived.Test.YtbcgecenfedjdaaDoorR2
import Derived.Test.YtbcgecenfedjdaaDoorFj
namespace Go.Proofs.YtbcgecenfedjdaaDoor
open Go.RowKit Ieee

theorem half_kept {m k x : Nat} (h : Hid (x = m / 2 ^ k)) : Hid (x / 2 = m / 2 ^ (k + 1)) := by
  show _ = _
  rw [h.out, Nat.div_div_eq_div_mul, Nat.pow_succ]
theorem half_few {m k : Nat} (hm : m ≤ 9223372036854775808) (h : 9007199254740992 ≤ m / 2 ^ k) : k < 11 := by
  have := (Nat.le_div_iff_mul_le (Nat.two_pow_pos k)).1 h
  rw [show (9007199254740992 : Nat) = 2 ^ 53 from rfl, ← Nat.pow_add] at this
  have h2 : 2 ^ (53 + k) ≤ 2 ^ 63 := by omega
  have := (Nat.pow_le_pow_iff_right (by omega : 1 < 2)).1 h2
  omega

theorem kept_parts {m k x : Nat} (h : x = m / 2 ^ k) : m = x * 2 ^ k + m % 2 ^ k := by rw [h, Nat.mul_comm]; exact (Nat.div_add_mod m (2 ^ k)).symm
theorem kept_up {m k : Nat} (hk : 1 ≤ k) (h : 2 ^ (k - 1) < m % 2 ^ k ∨ (m % 2 ^ k = 2 ^ (k - 1) ∧ m / 2 ^ k % 2 = 1)) : keptN m k = m / 2 ^ k + 1 := by unfold keptN; rw [if_pos ⟨hk, h⟩]
theorem kept_down {m k : Nat} (h : ¬ (2 ^ (k - 1) < m % 2 ^ k ∨ (m % 2 ^ k = 2 ^ (k - 1) ∧ m / 2 ^ k % 2 = 1))) : keptN m k = m / 2 ^ k := by unfold keptN; rw [if_neg (fun g => h g.2)]; rfl
theorem made_nearest (neg : Bool) {m k x : Nat} (h : m / 2 ^ k < 9007199254740992) (h2 : k = 0 ∨ 9007199254740992 ≤ m / 2 ^ (k - 1)) (hk : k ≤ 11) (hx : keptN m k = x) : madeV neg x k = double.nearest neg m 0 := by
  have := kept_le h
  unfold madeV
  rw [if_neg (by omega), ← hx, made_kept neg h h2 hk]
/-- the code's words for what falls away -/
theorem rest_words {m k x : Nat} (hm : m ≤ 9223372036854775808) (hk : k ≤ 11) (h : x = m / 2 ^ k) : ∃ q r p : Nat, m = q + r ∧ r = m % 2 ^ k ∧ (1 ≤ k → p = 2 ^ (k - 1)) ∧ IntKind.u64.wrap ((x : Int) * 2 ^ k) = q ∧ IntKind.u64.wrap ((m : Int) - (q : Int)) = r ∧ IntKind.u64.wrap (2 ^ (k - 1)) = (p : Int) := by
  have hp := kept_parts h
  have h11 : 2 ^ (k - 1) ≤ 2 ^ 11 := Nat.pow_le_pow_right (by omega) (by omega)
  refine ⟨x * 2 ^ k, m % 2 ^ k, 2 ^ (k - 1), hp, rfl, fun _ => rfl, ?_, ?_, ?_⟩
  · rw [show (x : Int) * 2 ^ k = ((x * 2 ^ k : Nat) : Int) by rw [Int.natCast_mul, Int.natCast_pow]; rfl, IntKind.wrap_u64]
    omega
  · rw [IntKind.wrap_u64]; omega
  · rw [show (2 : Int) ^ (k - 1) = ((2 ^ (k - 1) : Nat) : Int) by rw [Int.natCast_pow]; rfl, IntKind.wrap_u64]
    exact Int.emod_eq_of_lt (Int.natCast_nonneg _) (Int.ofNat_lt.2 (Nat.lt_of_le_of_lt h11 (by decide)))

set_option maxRecDepth 100000 in
set_option maxHeartbeats 4000000 in
theorem rfrom_any (n : Int) (h1 : -9223372036854775808 ≤ n) (h2 : n ≤ 9223372036854775807) (w : World) :
    Calls Tryd.prog 28 #[.int .i64 n] w fun e w' => e = .returned (.float .f64 (double.nearest (decide (n < 0)) n.natAbs 0)) ∧ w = w' := by
  have HX := Lib.hid (fun (k : Nat) (hk : k ≤ 11) m => made_any (decide (n < 0)) m (k : Int) (by omega) (by omega))
  have hm : n.natAbs ≤ 9223372036854775808 := by omega
  by_cases hneg : n < 0
  · have ht : decide (n < 0) = true := by simp; omega
    rw [ht] at HX ⊢
    have hu : IntKind.u64.wrap (-(IntKind.u64.wrap n)) = (n.natAbs : Int) := by simp only [IntKind.wrap_u64]; omega
    generalize n.natAbs = m at *
    go_enter Tryd.func28, Tryd.ntmps28
    go_wp2
    go_loop [4, 5] (fun xv ev => ∃ k x : Nat, x ≤ m ∧ Hid (x = m / 2 ^ k) ∧ k ≤ 11 ∧ Hid (k = 0 ∨ 9007199254740992 ≤ m / 2 ^ (k - 1)) ∧ xv = .int .u64 x ∧ ev = .int .i64 k) (fun xv _ => (intOf xv).toNat)
    case atStart => exact ⟨0, m, Nat.le_refl _, by show _ = _; simp, by omega, .inl rfl, rfl, rfl⟩
    case round =>
      obtain ⟨k, x, hx, hxe, hk, hkk, rfl, rfl⟩ := hrel
      by_cases hgo : 9007199254740992 ≤ x
      · have k1 : decide ((9007199254740992 : Int) ≤ (x : Int)) = true := by simp; omega
        have hf := half_few (k := k) hm (by rw [← hxe.out]; exact hgo)
        have HG := Lib.hid (show k + 1 = 0 ∨ 9007199254740992 ≤ m / 2 ^ (k + 1 - 1) from .inr (by rw [Nat.add_sub_cancel, ← hxe.out]; exact hgo))
        have hx1 : 1 ≤ x := by omega
        clear hgo
        go_wp2
        go_round
        case rel => exact ⟨k + 1, x / 2, by omega, half_kept hxe, by omega, HG, by congr 1, by go_num⟩
        case measure => simp [intOf]; omega
      · have k1 : decide ((9007199254740992 : Int) ≤ (x : Int)) = false := by simp; omega
        obtain ⟨q, r, p, hqr, hr, hp, e1, e2, e3⟩ := rest_words hm hk hxe.out
        have hxlt : m / 2 ^ k < 9007199254740992 := by rw [← hxe.out]; omega
        have hup := fun (hk1 : 1 ≤ k) h => made_nearest true hxlt hkk.out hk ((kept_up hk1 h).trans (show m / 2 ^ k + 1 = x + 1 by rw [hxe.out]))
        have hdn := fun h => made_nearest true hxlt hkk.out hk ((kept_down h).trans hxe.out.symm)
        rw [← hr, ← hxe.out] at hup hdn
        have hz : m = x → k = 0 → madeV true x k = double.nearest true m 0 := fun a b => made_nearest true hxlt hkk.out hk (by rw [b, kept_zero]; exact a)
        have hX0 := Lib.hid (HX.out k hk x)
        have hx1 := HX.out k hk (x + 1)
        rw [show ((x + 1 : Nat) : Int) = (x : Int) + 1 from rfl] at hx1
        have hX1 := Lib.hid hx1
        clear hx1 hr hxlt HX
        by_cases hk0 : 0 < k
        · have hpp := hp hk0
          rw [← hpp] at hup hdn
          clear hpp hp hz
          by_cases c1 : p < r
          · have d1 : decide ((p : Int) < (r : Int)) = true := by simp; omega
            have HF := Lib.hid (hup hk0 (.inl c1))
            clear hup hdn hgo
            go_wp2_with fail
            refine (hX1.out _).mono ?_; rintro en w' ⟨rfl, rfl⟩
            go_wp2_with fail
            go_ret
            exact ⟨ret_val (by rw [← HF.out]; rfl), rfl⟩
          · have d1 : decide ((p : Int) < (r : Int)) = false := by simp; omega
            by_cases c2 : r = p
            · have d2 : ((r : Int) == (p : Int)) = true := by simp; omega
              by_cases c3 : x % 2 = 1
              · have d3 : ((x : Int) % 2 == 1) = true := by simp; omega
                have HF := Lib.hid (hup hk0 (.inr ⟨c2, c3⟩))
                subst c2
                clear hup hdn hgo c3
                go_wp2_with fail
                refine (hX1.out _).mono ?_; rintro en w' ⟨rfl, rfl⟩
                go_wp2_with fail
                go_ret
                exact ⟨ret_val (by rw [← HF.out]; rfl), rfl⟩
              · have d3 : ((x : Int) % 2 == 1) = false := by simp; omega
                have HF := Lib.hid (hdn (by rintro (h | ⟨_, h⟩); exact c1 h; exact c3 h))
                subst c2
                clear hup hdn hgo c3
                go_wp2_with fail
                refine (hX0.out _).mono ?_; rintro en w' ⟨rfl, rfl⟩
                go_wp2_with fail
                go_ret
                exact ⟨ret_val (by rw [← HF.out]; rfl), rfl⟩
            · have d2 : ((r : Int) == (p : Int)) = false := by simp; omega
              have HF := Lib.hid (hdn (by rintro (h | ⟨h, _⟩); exact c1 h; exact c2 h))
              clear hup hdn hgo
              go_wp2_with fail
              refine (hX0.out _).mono ?_; rintro en w' ⟨rfl, rfl⟩
              go_wp2_with fail
              go_ret
              exact ⟨ret_val (by rw [← HF.out]; rfl), rfl⟩
        · have hk00 : k = 0 := by omega
          have HF := Lib.hid (hz (by have := hxe.out; rw [hk00] at this; simpa using this.symm) hk00)
          clear hup hdn hgo hp hz hk00
          go_wp2_with fail
          refine (hX0.out _).mono ?_; rintro en w' ⟨rfl, rfl⟩
          go_wp2_with fail
          go_ret
          exact ⟨ret_val (by rw [← HF.out]; rfl), rfl⟩
  · have ht : decide (n < 0) = false := by simp; omega
    rw [ht] at HX ⊢
    have hu : IntKind.u64.wrap n = (n.natAbs : Int) := by simp only [IntKind.wrap_u64]; omega
    generalize n.natAbs = m at *
    go_enter Tryd.func28, Tryd.ntmps28
    go_wp2
    go_loop [4, 5] (fun xv ev => ∃ k x : Nat, x ≤ m ∧ Hid (x = m / 2 ^ k) ∧ k ≤ 11 ∧ Hid (k = 0 ∨ 9007199254740992 ≤ m / 2 ^ (k - 1)) ∧ xv = .int .u64 x ∧ ev = .int .i64 k) (fun xv _ => (intOf xv).toNat)
    case atStart => exact ⟨0, m, Nat.le_refl _, by show _ = _; simp, by omega, .inl rfl, rfl, rfl⟩
    case round =>
      obtain ⟨k, x, hx, hxe, hk, hkk, rfl, rfl⟩ := hrel
      by_cases hgo : 9007199254740992 ≤ x
      · have k1 : decide ((9007199254740992 : Int) ≤ (x : Int)) = true := by simp; omega
        have hf := half_few (k := k) hm (by rw [← hxe.out]; exact hgo)
        have HG := Lib.hid (show k + 1 = 0 ∨ 9007199254740992 ≤ m / 2 ^ (k + 1 - 1) from .inr (by rw [Nat.add_sub_cancel, ← hxe.out]; exact hgo))
        have hx1 : 1 ≤ x := by omega
        clear hgo
        go_wp2
        go_round
        case rel => exact ⟨k + 1, x / 2, by omega, half_kept hxe, by omega, HG, by congr 1, by go_num⟩
        case measure => simp [intOf]; omega
      · have k1 : decide ((9007199254740992 : Int) ≤ (x : Int)) = false := by simp; omega
        obtain ⟨q, r, p, hqr, hr, hp, e1, e2, e3⟩ := rest_words hm hk hxe.out
        have hxlt : m / 2 ^ k < 9007199254740992 := by rw [← hxe.out]; omega
        have hup := fun (hk1 : 1 ≤ k) h => made_nearest false hxlt hkk.out hk ((kept_up hk1 h).trans (show m / 2 ^ k + 1 = x + 1 by rw [hxe.out]))
        have hdn := fun h => made_nearest false hxlt hkk.out hk ((kept_down h).trans hxe.out.symm)
        rw [← hr, ← hxe.out] at hup hdn
        have hz : m = x → k = 0 → madeV false x k = double.nearest false m 0 := fun a b => made_nearest false hxlt hkk.out hk (by rw [b, kept_zero]; exact a)
        have hX0 := Lib.hid (HX.out k hk x)
        have hx1 := HX.out k hk (x + 1)
        rw [show ((x + 1 : Nat) : Int) = (x : Int) + 1 from rfl] at hx1
        have hX1 := Lib.hid hx1
        clear hx1 hr hxlt HX
        by_cases hk0 : 0 < k
        · have hpp := hp hk0
          rw [← hpp] at hup hdn
          clear hpp hp hz
          by_cases c1 : p < r
          · have d1 : decide ((p : Int) < (r : Int)) = true := by simp; omega
            have HF := Lib.hid (hup hk0 (.inl c1))
            clear hup hdn hgo
            go_wp2_with fail
            refine (hX1.out _).mono ?_; rintro en w' ⟨rfl, rfl⟩
            go_wp2_with fail
            go_ret
            exact ⟨ret_val (by rw [← HF.out]; rfl), rfl⟩
          · have d1 : decide ((p : Int) < (r : Int)) = false := by simp; omega
            by_cases c2 : r = p
            · have d2 : ((r : Int) == (p : Int)) = true := by simp; omega
              by_cases c3 : x % 2 = 1
              · have d3 : ((x : Int) % 2 == 1) = true := by simp; omega
                have HF := Lib.hid (hup hk0 (.inr ⟨c2, c3⟩))
                subst c2
                clear hup hdn hgo c3
                go_wp2_with fail
                refine (hX1.out _).mono ?_; rintro en w' ⟨rfl, rfl⟩
                go_wp2_with fail
                go_ret
                exact ⟨ret_val (by rw [← HF.out]; rfl), rfl⟩
              · have d3 : ((x : Int) % 2 == 1) = false := by simp; omega
                have HF := Lib.hid (hdn (by rintro (h | ⟨_, h⟩); exact c1 h; exact c3 h))
                subst c2
                clear hup hdn hgo c3
                go_wp2_with fail
                refine (hX0.out _).mono ?_; rintro en w' ⟨rfl, rfl⟩
                go_wp2_with fail
                go_ret
                exact ⟨ret_val (by rw [← HF.out]; rfl), rfl⟩
            · have d2 : ((r : Int) == (p : Int)) = false := by simp; omega
              have HF := Lib.hid (hdn (by rintro (h | ⟨h, _⟩); exact c1 h; exact c2 h))
              clear hup hdn hgo
              go_wp2_with fail
              refine (hX0.out _).mono ?_; rintro en w' ⟨rfl, rfl⟩
              go_wp2_with fail
              go_ret
              exact ⟨ret_val (by rw [← HF.out]; rfl), rfl⟩
        · have hk00 : k = 0 := by omega
          have HF := Lib.hid (hz (by have := hxe.out; rw [hk00] at this; simpa using this.symm) hk00)
          clear hup hdn hgo hp hz hk00
          go_wp2_with fail
          refine (hX0.out _).mono ?_; rintro en w' ⟨rfl, rfl⟩
          go_wp2_with fail
          go_ret
          exact ⟨ret_val (by rw [← HF.out]; rfl), rfl⟩
end Go.Proofs.YtbcgecenfedjdaaDoor
