/-
  The walk of the lexer's 'while'.
-/
import Derived.Test.YtkcbkfflabkcgaaDoorK1
namespace Go.Proofs.YtkcbkfflabkcgaaDoor
open Go.RowKit

set_option maxRecDepth 100000 in
set_option maxHeartbeats 1000000 in
theorem while_any (fn : Nat) (hen : ∀ args w, (callFunc fn args).run Tryd.prog w = .ok (.enter fn args) w) (p : UInt8 → Bool) (hp : ∀ (c : UInt8) (w : World), Calls Tryd.prog fn #[.int .u8 c.toNat] w fun e w' => e = .returned (.bool (p c)) ∧ w = w')
    (s : ByteArray) (hs : s.size ≤ 1000000) (a b : Nat) (ha : a ≤ s.size) (w : World) (hb : LexAt b s a w) :
    Calls Tryd.prog 21 #[.pointer (some ⟨b, 0, none⟩), .func (.func fn) #[] #[]] w fun e w' =>
      e = .returned (.string (s.extract a (a + far p s.data.toList a))) ∧ LexAt b s (a + far p s.data.toList a) w' ∧ Fr [b] w w' := by
  have HP := Lib.hid hp; clear hp
  have hlen : s.data.toList.length = s.size := by simp
  have HL := Lib.hid hlen; clear hlen
  have c0 := hb.c0; have c1 := hb.c1
  go_enter Tryd.func21, Tryd.ntmps21
  go_wp2
  go_loopw [] (fun wr => ∃ k : Nat, a ≤ k ∧ k ≤ s.size ∧ LexAt b s k wr ∧ Fr [b] w wr ∧ Hid (a + far p s.data.toList a = k + far p s.data.toList k)) (fun wr => match wr.cell? ⟨b, 1, none⟩ with | some v => s.size - (intOf v).toNat | none => 0)
  case atStart => exact ⟨a, Nat.le_refl _, ha, hb, Fr.refl _ _, rfl⟩
  case round =>
    obtain ⟨k, hak, hk, hlx, hfr, hfar⟩ := hrel
    have d0 := hlx.c0; have d1 := hlx.c1; have g1 := hlx.f1
    by_cases hlt : k < s.size
    · have hg0 : s[k]'hlt = s.data.toList.getD k 0 := by simp [List.getD, hlt]; rfl
      have hpk : p (s[k]'hlt) = p (s.data.toList.getD k 0) := by rw [hg0]
      have HPK := Lib.hid hpk; clear hpk hg0
      have HC := HP.out (s[k]'hlt)
      cases hv : p (s[k]'hlt)
      · rw [hv] at HC HPK
        have HC := Lib.hid HC
        have HF := Lib.hid (far_stop p (by rw [HL.out]; exact hlt) HPK.out.symm)
        go_wp2_with fail
        go_quiet (refine Calls.quiet_of_same ((HC.out _).mono fun _ _ h => ⟨h.1, h.2.symm⟩))
        go_wp2
        go_quiet (fail)
        go_wp2
        go_ret
        exact ⟨ret_val (by rw [hfar.out, HF.out]; rfl), by rw [hfar.out, HF.out]; exact (hlx.drewN _).drewN _, (hfr.drewN _).drewN _⟩
      · rw [hv] at HC HPK
        have HC := Lib.hid HC
        have HF := Lib.hid (far_go p (by rw [HL.out]; exact hlt) HPK.out.symm)
        go_wp2_with fail
        go_quiet (refine Calls.quiet_of_same ((HC.out _).mono fun _ _ h => ⟨h.1, h.2.symm⟩))
        go_wp2
        go_roundw
        case rel => exact ⟨k + 1, by omega, by omega, (hlx.drewN _).put _, (hfr.drewN _).setCell _ (by simp) _, by show _ = _; rw [hfar.out, HF.out]; omega⟩
        case measure =>
          have e1 : ∀ n, ((wr.drewN n).setCell ⟨b, 1, none⟩ (.int .i64 ((k : Int) + 1))).cell? ⟨b, 1, none⟩ = some (.int .i64 ((k : Int) + 1)) := fun n => ((hlx.drewN n).put (k + 1)).c1
          simp only [e1, d1]
          show s.size - ((k : Int) + 1).toNat < s.size - (k : Int).toNat
          omega
    · have ht : decide ((k : Int) < (s.size : Int)) = false := by simp; omega
      have HF := Lib.hid (far_end p (l := s.data.toList) (a := k) (by rw [HL.out]; omega))
      go_wp2_with fail
      go_quiet (fail)
      go_wp2
      go_quiet (fail)
      go_wp2
      go_ret
      exact ⟨ret_val (by rw [hfar.out, HF.out]; rfl), by rw [hfar.out, HF.out]; exact (hlx.drewN _).drewN _, (hfr.drewN _).drewN _⟩
end Go.Proofs.YtkcbkfflabkcgaaDoor
