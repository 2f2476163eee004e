/-
  La6 in one text.
-/
import Derived.Below
import Derived.BigFrame
import Derived.Deep.Cut
import Derived.Deep.QuietTactic
import Derived.IntWalk
import Derived.KernelRfl
import Derived.Lib.Builder
import Derived.Lib.Hide
import Derived.LoopTactic
import Derived.OneCell
import Derived.OwnWalk
import Derived.ProofKit
import Derived.RegionTactic
import Derived.Tactics
import Derived.Test.YtkbcdlabfbonoaaGreatDoorChecked
import Derived.Test.YtkbcdlabfbonoaaGreatDoorS01
import Derived.Test.YtkbcdlabfbonoaaGreatDoorS12
import Derived.Test.YtkbcdlabfbonoaaGreatDoorS13
import Derived.Test.YtkbcdlabfbonoaaGreatDoorS14
import Derived.Test.YtkbcdlabfbonoaaGreatDoorS16
namespace Go.Proofs.YtkbcdlabfbonoaaGreatDoor
open Go.RowKit
set_option maxRecDepth 100000 in
set_option maxHeartbeats 16000000 in
theorem lclose_any (b n : Nat) (R : Rel) (w : World) (hr : ∀ k, k < n → R k k = true) (hout : ∀ x y, n ≤ x → R x y = false) (hfar : ∀ x y, n ≤ y → R x y = false) (h : LatAt b n R (fun _ _ => false) w) :
    Calls Tryz.prog 19 #[.pointer (some ⟨b, 0, none⟩)] w fun e w' => e = .returned (.tuple #[]) ∧ LatAt b n (War R n) (flip (War R n)) w' ∧ Fr [b] w w' := by
  have hn8 := h.le8
  have HR := Lib.hid hr; clear hr
  have HO := Lib.hid hout; have HF := Lib.hid hfar; clear hout hfar
  have c0 := h.cellN
  have H := Lib.hid h; clear h
  go_enter Tryz.func19, Tryz.ntmps19
  go_wp2_with fail
  go_loopw [10] (fun v wr => ∃ k : Nat, v = .int .i64 (k : Int) ∧ k ≤ n ∧ Hid (LatAt b n (War R k) (fun _ _ => false) wr ∧ Fr [b] w wr)) (fun v _ => n - (intOf v).toNat)
  case atStart => exact ⟨0, rfl, Nat.zero_le _, Lib.hid ⟨H.out, Fr.refl _ _⟩⟩
  case round =>
    clear c0
    obtain ⟨k, rfl, hk, hq⟩ := hrel
    by_cases hlt : k < n
    · have t0 : decide ((k : Int) < (n : Int)) = true := by simp; omega
      have c0 := hq.out.1.cellN
      go_wp2_with fail
      go_loopw [17] (fun v wr => ∃ a : Nat, v = .int .i64 (a : Int) ∧ a ≤ n ∧ Hid (LatAt b n (WarB R k a) (fun _ _ => false) wr ∧ Fr [b] w wr)) (fun v _ => n - (intOf v).toNat)
      case atStart => exact ⟨0, rfl, Nat.zero_le _, Lib.hid ⟨by rw [WarB.zero]; exact hq.out.1, hq.out.2⟩⟩
      case round =>
        clear c0 hq
        obtain ⟨a, rfl, ha, hq⟩ := hrel
        by_cases hal : a < n
        · have t1 : decide ((a : Int) < (n : Int)) = true := by simp; omega
          have ha8 : a < 8 := by omega
          have hk8 : k < 8 := by omega
          have cU := hq.out.1.cellU ha8
          have b1 := u8_shr (WarB R k a a) hk8 .i64
          have b2 := u8_bit (WarB R k a a) hk8
          have HW := Lib.hid (WarB.step (R := R) (HR.out k hlt) a)
          cases hbit : WarB R k a a k with
          | true =>
            rw [hbit] at b2
            have cK := hq.out.1.cellU hk8
            have fU := hq.out.1.free (1 + a)
            have cUd : wr.drew.cell? ⟨b, 1 + a, none⟩ = _ := cU
            have cKd : wr.drew.cell? ⟨b, 1 + k, none⟩ = _ := cK
            have fUd : wr.drew.frozen? ⟨b, 1 + a, none⟩ = false := fU
            have k0 : (k : Int) < 8 := by omega
            have a0 : (a : Int) < 8 := by omega
            have b3 := u8_or (WarB R k a a) (WarB R k a k)
            have HS := Lib.hid (hq.out.1.drew.setU ha8 (U' := WarB R k (a + 1)) (fun x y hx => by rw [← HW.out]; unfold rowW; rw [if_neg (fun e => hx e.1)]))
            have hrow : bits (WarB R k (a + 1) a) = bits fun y => WarB R k a a y || WarB R k a k y := bits_ext fun y _ => by rw [← HW.out]; unfold rowW; rw [if_pos ⟨rfl, hbit⟩]
            rw [← hrow] at b3
            clear hrow
            go_upto_region 7 with (fail)
            go_region
            all_goals (
              go_wp2_with fail
              go_roundw
              case rel => exact ⟨a + 1, by go_num, by omega, Lib.hid ⟨HS.out, hq.out.2.drew.setCell ⟨b, 1 + a, none⟩ (by simp) _⟩⟩
              case measure => simp [intOf]; omega)
          | false =>
            rw [hbit] at b2
            have hsame : WarB R k (a + 1) = WarB R k a := by
              rw [← HW.out]; funext x y; unfold rowW; split
              · next hx => rw [hbit] at hx; exact absurd hx.2 (by simp)
              · rfl
            have HQ := Lib.hid (show LatAt b n (WarB R k (a + 1)) (fun _ _ => false) wr ∧ Fr [b] w wr from by rw [hsame]; exact hq.out)
            clear hsame
            go_wp2_with fail
            go_roundw
            case rel => exact ⟨a + 1, by go_num, by omega, HQ⟩
            case measure => simp [intOf]; omega
        · have t1 : decide ((a : Int) < (n : Int)) = false := by simp; omega
          obtain rfl : n = a := by omega
          go_wp2_with fail
          go_roundw
          case rel => exact ⟨k + 1, by go_num, by omega, Lib.hid (by rw [← WarB.all HO.out]; exact hq.out)⟩
          case measure => simp [intOf]; omega
    · have t0 : decide ((k : Int) < (n : Int)) = false := by simp; omega
      obtain rfl : n = k := by omega
      have c0 := hq.out.1.cellN
      obtain ⟨le, hle⟩ : ∃ le : Rel, War R n = le := ⟨_, rfl⟩
      have HL := Lib.hid (show ∀ x y, n ≤ x → le x y = false from fun x y hx => by rw [← hle]; exact War.out HO.out n x y hx)
      have HM := Lib.hid (show ∀ x y, n ≤ y → le x y = false from fun x y hx => by rw [← hle]; exact War.far HF.out n x y hx)
      have H1 := Lib.hid (show LatAt b n le (fun _ _ => false) wr from by rw [← hle]; exact hq.out.1)
      have H2 := Lib.hid hq.out.2
      have HLE := Lib.hid hle
      clear hq H HR HO HF hle
      go_wp2_with fail
      go_loopw [52] (fun v wx => ∃ a : Nat, v = .int .i64 (a : Int) ∧ a ≤ n ∧ Hid (LatAt b n le (DownB le a 0) wx ∧ Fr [b] w wx)) (fun v _ => n - (intOf v).toNat)
      case atStart => exact ⟨0, rfl, Nat.zero_le _, Lib.hid ⟨by rw [DownB.zero]; exact H1.out, H2.out⟩⟩
      case round =>
        clear c0 H1 H2
        obtain ⟨a, rfl, ha, hq⟩ := hrel
        by_cases hal : a < n
        · have t1 : decide ((a : Int) < (n : Int)) = true := by simp; omega
          have c0 := hq.out.1.cellN
          go_wp2_with fail
          go_loopw [59] (fun v wx => ∃ c : Nat, v = .int .i64 (c : Int) ∧ c ≤ n ∧ Hid (LatAt b n le (DownB le a c) wx ∧ Fr [b] w wx)) (fun v _ => n - (intOf v).toNat)
          case atStart => exact ⟨0, rfl, Nat.zero_le _, Lib.hid hq.out⟩
          case round =>
            clear c0 hq
            obtain ⟨c, rfl, hc, hq⟩ := hrel
            by_cases hcl : c < n
            · have t2 : decide ((c : Int) < (n : Int)) = true := by simp; omega
              have ha8 : a < 8 := by omega
              have hc8 : c < 8 := by omega
              have a0 : (a : Int) < 8 := by omega
              have c1 : (c : Int) < 8 := by omega
              have cU := hq.out.1.cellU ha8
              have b1 := u8_shr (le a) hc8 .i64
              have b2 := u8_bit (le a) hc8
              have HW := Lib.hid (DownB.step le a c)
              cases hbit : le a c with
              | true =>
                rw [hbit] at b2
                have cD := hq.out.1.cellD hc8
                have fD := hq.out.1.free (9 + c)
                have cDd : wr.drew.cell? ⟨b, 9 + c, none⟩ = _ := cD
                have fDd : wr.drew.frozen? ⟨b, 9 + c, none⟩ = false := fD
                have b3 := u8_shl ha8 .i64
                have b4 := u8_or (DownB le a c c) (fun y => Nat.beq y a)
                have hrow : bits (DownB le a (c + 1) c) = bits fun y => DownB le a c c y || Nat.beq y a := bits_ext fun y _ => by rw [← HW.out]; simp [hbit]
                rw [← hrow] at b4
                have HS := Lib.hid (hq.out.1.drew.setD hc8 (D' := DownB le a (c + 1)) (fun x y hx => by rw [← HW.out]; simp [hx]))
                clear hrow
                go_upto_region 17 with (fail)
                go_region
                all_goals (
                  go_wp2_with fail
                  go_roundw
                  case rel => exact ⟨c + 1, by go_num, by omega, Lib.hid ⟨HS.out, hq.out.2.drew.setCell ⟨b, 9 + c, none⟩ (by simp) _⟩⟩
                  case measure => simp [intOf]; omega)
              | false =>
                rw [hbit] at b2
                have hsame : DownB le a (c + 1) = DownB le a c := by
                  rw [← HW.out]; funext x y
                  by_cases hx : x = c
                  · subst hx; simp [hbit]
                  · simp [hx]
                have HQ := Lib.hid (show LatAt b n le (DownB le a (c + 1)) wr ∧ Fr [b] w wr from by rw [hsame]; exact hq.out)
                clear hsame
                go_wp2_with fail
                go_roundw
                case rel => exact ⟨c + 1, by go_num, by omega, HQ⟩
                case measure => simp [intOf]; omega
            · have t2 : decide ((c : Int) < (n : Int)) = false := by simp; omega
              obtain rfl : n = c := by omega
              have HQ := Lib.hid (show LatAt b n le (DownB le (a + 1) 0) wr ∧ Fr [b] w wr from by rw [← DownB.all (n := n) (fun x y hx => HM.out x y hx)]; exact hq.out)
              clear hq
              go_wp2_with fail
              go_roundw
              case rel => exact ⟨a + 1, by go_num, by omega, HQ⟩
              case measure => simp [intOf]; omega
        · have t1 : decide ((a : Int) < (n : Int)) = false := by simp; omega
          obtain rfl : n = a := by omega
          have HQ := Lib.hid (show LatAt b n le (flip le) wr ∧ Fr [b] w wr from by rw [← DownB.done (n := n) (fun x y hx => HL.out x y hx)]; exact hq.out)
          clear hq
          go_wp2_with fail
          go_end0
          exact ⟨rfl, by rw [HLE.out]; exact HQ.out.1, HQ.out.2⟩
end Go.Proofs.YtkbcdlabfbonoaaGreatDoor
