/-
  The walk of the references' number.
-/
import Derived.Test.YtkcbkfflabkcgaaGreatDoorR2
import Derived.Test.YtkcbkfflabkcgaaGreatDoorFn
import Derived.Test.YtkcbkfflabkcgaaGreatDoorW7
import Derived.Lib.MinMax
import Derived.Deep.QuietTactic
import Derived.BigQuiet
import Derived.OwnWalk
namespace Go.Proofs.YtkcbkfflabkcgaaGreatDoor
open Go.RowKit Ieee

theorem num_step (l : List UInt8) (k : Nat) (h : k < l.length) : capN (capN (decVal (l.take k)) * 10 + ((l.getD k 0).toNat - 48)) = capN (decVal (l.take (k + 1))) := by
  rw [cap_step, List.take_succ_eq_append_getElem h, decVal_snoc]
  simp [List.getD, h]
theorem num_end {l : List UInt8} {k : Nat} (h : l.length ≤ k) : ∀ c r, l.drop k = c :: r → isDig c = false := by
  intro c r e; rw [List.drop_eq_nil_of_le h] at e; cases e
theorem num_stop {l : List UInt8} {k : Nat} (hk : k < l.length) (h : isDig (l.getD k 0) = false) : ∀ c r, l.drop k = c :: r → isDig c = false := by
  intro c r e
  rw [List.drop_eq_getElem_cons hk] at e
  cases e
  simpa [List.getD, hk] using h

theorem num_ret (s : ByteArray) (k n : Nat) (hk : k ≤ s.size) (hl : s.data.toList.length = s.size) (hv : n = capN (decVal (s.data.toList.take k))) (e1 : digs s.data.toList = s.data.toList.take k) (e2 : rst s.data.toList = s.data.toList.drop k) :
    Hid (Value.tuple #[.int .u64 n, .int .i64 k, .string (s.extract k s.size)] = .tuple #[.int .u64 (capN (decVal (digs s.data.toList))), .int .i64 (digs s.data.toList).length, .string ⟨(rst s.data.toList).toArray⟩]) := by
  show _ = _
  rw [e1, e2, ← hv, List.length_take, hl, Nat.min_eq_left hk]
  have : s.extract k s.size = ⟨(s.data.toList.drop k).toArray⟩ := by
    apply ByteArray.ext
    apply Array.toList_inj.1
    simp only [ByteArray.data_extract, Array.toList_extract, List.extract_eq_take_drop]
    exact List.take_of_length_le (by rw [List.length_drop, hl]; exact Nat.le_refl _)
  rw [this]

set_option maxRecDepth 100000 in
set_option maxHeartbeats 1000000 in
theorem number_any (s : ByteArray) (hs : s.size ≤ 1000000) (w : World) : Calls Tryz.prog 44 #[.string s] w fun e w' => e = .returned (.tuple #[.int .u64 (capN (decVal (digs s.data.toList))), .int .i64 (digs s.data.toList).length, .string ⟨(rst s.data.toList).toArray⟩]) ∧ Below w.heap.size w w' := by
  have hlen : s.data.toList.length = s.size := by simp
  have HL := Lib.hid hlen; clear hlen
  go_enter Tryz.func44, Tryz.ntmps44
  go_wp2
  go_loop [5, 6] (fun nv kv => ∃ (k n : Nat), k ≤ s.size ∧ n ≤ 576460752303423488 ∧ nv = .int .u64 n ∧ kv = .int .i64 k ∧ Hid (n = capN (decVal (s.data.toList.take k))) ∧ Hid ((s.data.toList.take k).all isDig = true)) (fun _ kv => s.size - (intOf kv).toNat)
  case atStart => exact ⟨0, 0, Nat.zero_le _, by omega, rfl, rfl, by show _ = _; simp [decVal, capN], by show _ = _; simp⟩
  case round =>
    obtain ⟨k, n, hk, hn, rfl, rfl, hv, hall⟩ := hrel
    by_cases hlt : k < s.size
    · have ht0 : decide ((k : Int) < (s.size : Int)) = true := by simp; omega
      have hg0 : s[k]'hlt = s.data.toList.getD k 0 := by simp [List.getD, hlt]; rfl
      have hdg : isDig (s.data.toList.getD k 0) = decide (48 ≤ (s[k]'hlt).toNat ∧ (s[k]'hlt).toNat ≤ 57) := by rw [hg0]; rfl
      have hst := num_step s.data.toList k (by rw [HL.out]; exact hlt)
      rw [← hv.out, ← hg0] at hst
      have HST := Lib.hid hst; clear hst hg0
      have hsucc := all_take_succ s.data.toList k (by rw [HL.out]; exact hlt)
      have hg : s.data.toList.getD k 0 = s.data.toList[k]'(by rw [HL.out]; exact hlt) := by simp [List.getD, hlt]
      rw [← hg] at hsucc
      have HS := Lib.hid hsucc; clear hsucc hg
      have hb := (s[k]'hlt).toNat_lt
      by_cases hd : 48 ≤ (s[k]'hlt).toNat ∧ (s[k]'hlt).toNat ≤ 57
      · have HQ := Lib.hid (show isDig (s.data.toList.getD k 0) = true from by rw [hdg]; simp [hd])
        have t1 : decide ((48 : Int) ≤ ((s[k]'hlt).toNat : Int)) = true := by simp; omega
        have t2 : decide (((s[k]'hlt).toNat : Int) ≤ 57) = true := by simp; omega
        obtain ⟨d1, d2⟩ := hd
        clear hdg
        have HC := Lib.hid (cap_lt (n * 10 + ((s[k]'hlt).toNat - 48)))
        have HM := Lib.hid (show (min ((n : Int) * 10 + (((s[k]'hlt).toNat : Int) - 48)) 576460752303423488 : Int) = ((capN (n * 10 + ((s[k]'hlt).toNat - 48)) : Nat) : Int) from by unfold capN; omega)
        go_wp2
        go_round
        case rel => exact ⟨k + 1, capN (n * 10 + ((s[k]'hlt).toNat - 48)), by omega, HC.out, by rw [HM.out], by go_num, HST.out, by show _ = _; rw [HS.out, hall.out, HQ.out]; rfl⟩
        case measure => simp [intOf]; omega
      · have HQ := Lib.hid (show isDig (s.data.toList.getD k 0) = false from by rw [hdg]; simp [hd])
        obtain ⟨e1, e2⟩ := digs_take hall.out (num_stop (k := k) (by rw [HL.out]; exact hlt) HQ.out)
        have HR := num_ret s k n (by omega) HL.out hv.out e1 e2
        clear e1 e2
        by_cases h48 : 48 ≤ (s[k]'hlt).toNat
        · have t1 : decide ((48 : Int) ≤ ((s[k]'hlt).toNat : Int)) = true := by simp; omega
          have t2 : decide (((s[k]'hlt).toNat : Int) ≤ 57) = false := by simp; omega
          clear hd hdg h48
          go_wp2
          go_quiet (fail)
          go_wp2
          go_ret3
          exact ⟨ret_val HR.out, below_drewN _ _⟩
        · have t1 : decide ((48 : Int) ≤ ((s[k]'hlt).toNat : Int)) = false := by simp; omega
          clear hd hdg h48
          go_wp2
          go_quiet (fail)
          go_wp2
          go_ret3
          exact ⟨ret_val HR.out, below_drewN _ _⟩
    · have ht0 : decide ((k : Int) < (s.size : Int)) = false := by simp; omega
      obtain ⟨e1, e2⟩ := digs_take hall.out (num_end (k := k) (by rw [HL.out]; omega))
      have HR := num_ret s k n hk HL.out hv.out e1 e2
      clear e1 e2
      go_wp2
      go_quiet (fail)
      go_wp2
      go_ret3
      exact ⟨ret_val HR.out, below_drewN _ _⟩
end Go.Proofs.YtkcbkfflabkcgaaGreatDoor
