/-
  The walks of the references' predicates on bytes and of their 'run'.
-/
import Derived.Test.YtkcbkfflabkcgaaGreatDoorK1
namespace Go.Proofs.YtkcbkfflabkcgaaGreatDoor
open Go.RowKit

theorem part_snoc {l : List UInt8} {a k : Nat} (h : a ≤ k) (hk : k < l.length) : part l a (k + 1) = part l a k ++ [l.getD k 0] := by
  unfold part
  have e : l.getD k 0 = l[k] := by simp [List.getD, hk]
  rw [show k + 1 - a = (k - a) + 1 by omega, List.take_succ_eq_append_getElem (by rw [List.length_drop]; omega), e]
  congr 2
  rw [List.getElem_drop]
  congr 1
  omega
theorem part_self (l : List UInt8) (a : Nat) : part l a a = [] := by unfold part; rw [Nat.sub_self]; rfl

set_option maxRecDepth 100000 in
set_option maxHeartbeats 400000 in
theorem rblank_any (c : UInt8) (w : World) : Calls Tryz.prog 15 #[.int .u8 c.toNat] w fun e w' => e = .returned (.bool (isBl c)) ∧ w = w' := by
  have HB := Lib.hid (show isBl c = (((c.toNat : Int) == 32 || (c.toNat : Int) == 9) || (c.toNat : Int) == 10 || (c.toNat : Int) == 13) from by unfold isBl; rw [u8_beq, u8_beq, u8_beq, u8_beq]; simp [Bool.or_assoc])
  cases h1 : ((c.toNat : Int) == 32) <;> cases h2 : ((c.toNat : Int) == 9) <;> cases h3 : ((c.toNat : Int) == 10) <;> cases h4 : ((c.toNat : Int) == 13)
  all_goals
    rw [h1, h2, h3, h4] at HB
    go_enter Tryz.func15, Tryz.ntmps15
    go_wp2
    go_ret
    exact ⟨ret_val (by rw [HB.out]; rfl), rfl⟩

set_option maxRecDepth 100000 in
set_option maxHeartbeats 400000 in
theorem rdigit_any (c : UInt8) (w : World) : Calls Tryz.prog 16 #[.int .u8 c.toNat] w fun e w' => e = .returned (.bool (isDig c)) ∧ w = w' := by
  have HB := Lib.hid (show isDig c = (decide ((48 : Int) ≤ (c.toNat : Int)) && decide ((c.toNat : Int) ≤ 57)) from by
    show decide (48 ≤ c.toNat ∧ c.toNat ≤ 57) = _
    rw [Bool.eq_iff_iff]; simp; omega)
  cases h1 : decide ((48 : Int) ≤ (c.toNat : Int)) <;> cases h2 : decide ((c.toNat : Int) ≤ 57)
  all_goals
    rw [h1, h2] at HB
    go_enter Tryz.func16, Tryz.ntmps16
    go_wp2
    go_ret
    exact ⟨ret_val (by rw [HB.out]; rfl), rfl⟩

set_option maxRecDepth 100000 in
set_option maxHeartbeats 400000 in
theorem rletter_any (c : UInt8) (w : World) : Calls Tryz.prog 18 #[.int .u8 c.toNat] w fun e w' => e = .returned (.bool (isLet c)) ∧ w = w' := by
  have HB := Lib.hid (show isLet c = (decide ((97 : Int) ≤ (c.toNat : Int)) && decide ((c.toNat : Int) ≤ 122)) from by
    unfold isLet
    rw [Bool.eq_iff_iff]; simp; omega)
  cases h1 : decide ((97 : Int) ≤ (c.toNat : Int)) <;> cases h2 : decide ((c.toNat : Int) ≤ 122)
  all_goals
    rw [h1, h2] at HB
    go_enter Tryz.func18, Tryz.ntmps18
    go_wp2
    go_ret
    exact ⟨ret_val (by rw [HB.out]; rfl), rfl⟩

set_option maxRecDepth 100000 in
set_option maxHeartbeats 1000000 in
theorem rrun_any (s : ByteArray) (hs : s.size ≤ 1000000) (a : Nat) (ha : a ≤ s.size) (w : World) : Calls Tryz.prog 31 #[.string s, .int .i64 (a : Int)] w fun e w' =>
    e = .returned (.int .i64 ((a + far isDig s.data.toList a : Nat) : Int)) ∧ w = w' := by
  have hlen : s.data.toList.length = s.size := by simp
  have HL := Lib.hid hlen; clear hlen
  have HE := Lib.hid (Eq.refl (a + far isDig s.data.toList a))
  generalize hE : a + far isDig s.data.toList a = E at *
  replace HE := Lib.hid hE.symm; clear hE
  go_enter Tryz.func31, Tryz.ntmps31
  go_wp2
  go_loop [1] (fun kv => ∃ k : Nat, a ≤ k ∧ k ≤ s.size ∧ kv = .int .i64 k ∧ Hid (E = k + far isDig s.data.toList k)) (fun kv => s.size - (intOf kv).toNat)
  case atStart => exact ⟨a, Nat.le_refl _, ha, rfl, HE⟩
  case round =>
    obtain ⟨k, hak, hk, rfl, hfar⟩ := hrel
    by_cases hlt : k < s.size
    · have ht0 : decide ((k : Int) < (s.size : Int)) = true := by simp; omega
      have hg0 : s[k]'hlt = s.data.toList.getD k 0 := by simp [List.getD, hlt]; rfl
      have hpk : isDig (s[k]'hlt) = isDig (s.data.toList.getD k 0) := by rw [hg0]
      have HPK := Lib.hid hpk; clear hpk hg0
      have HC := rdigit_any (s[k]'hlt) w
      cases hv : isDig (s[k]'hlt)
      · rw [hv] at HC HPK
        have HC := Lib.hid HC
        have HF := Lib.hid (far_stop isDig (by rw [HL.out]; exact hlt) HPK.out.symm)
        go_wp2_with (go_at_call 16; refine HC.out.mono ?_; rintro e w' ⟨rfl, rfl⟩)
        go_ret
        exact ⟨ret_val (by rw [hfar.out, HF.out]; rfl), rfl⟩
      · rw [hv] at HC HPK
        have HC := Lib.hid HC
        have HF := Lib.hid (far_go isDig (by rw [HL.out]; exact hlt) HPK.out.symm)
        go_wp2_with (go_at_call 16; refine HC.out.mono ?_; rintro e w' ⟨rfl, rfl⟩)
        go_round
        case rel => exact ⟨k + 1, by omega, by omega, by go_num, by show _ = _; rw [hfar.out, HF.out]; omega⟩
        case measure => simp [intOf]; omega
    · have ht : decide ((k : Int) < (s.size : Int)) = false := by simp; omega
      have ht2 : ¬ k < s.size := hlt
      have HF := Lib.hid (far_end isDig (l := s.data.toList) (a := k) (by rw [HL.out]; omega))
      go_wp2
      go_ret
      exact ⟨ret_val (by rw [hfar.out, HF.out]; rfl), rfl⟩
end Go.Proofs.YtkcbkfflabkcgaaGreatDoor
