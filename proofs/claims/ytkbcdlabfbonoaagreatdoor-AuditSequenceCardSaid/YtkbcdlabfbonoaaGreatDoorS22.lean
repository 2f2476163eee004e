/-
  Lb2 in one text.
-/
import Derived.Below
import Derived.BigFrame
import Derived.Deep.Cut
import Derived.Deep.DeepCutAuto
import Derived.Deep.MidRow
import Derived.Deep.QuietTactic
import Derived.Deep.RegionHeld3
import Derived.IntWalk
import Derived.KernelRfl
import Derived.Laws.Rows
import Derived.Laws.Unary
import Derived.Lib.Builder
import Derived.Lib.Hide
import Derived.Lib.MinMax
import Derived.LoopTactic
import Derived.OneCell
import Derived.OwnWalk
import Derived.ProofKit
import Derived.RegionTactic
import Derived.Scope
import Derived.Tactics
import Derived.Test.YtkbcdlabfbonoaaGreatDoorChecked
import Derived.Test.YtkbcdlabfbonoaaGreatDoorEv3
import Derived.Test.YtkbcdlabfbonoaaGreatDoorS01
import Derived.Test.YtkbcdlabfbonoaaGreatDoorS05
import Derived.Test.YtkbcdlabfbonoaaGreatDoorS06
import Derived.Test.YtkbcdlabfbonoaaGreatDoorS12
import Derived.Test.YtkbcdlabfbonoaaGreatDoorS19
import Derived.Test.YtkbcdlabfbonoaaGreatDoorS21
namespace Go.Proofs.YtkbcdlabfbonoaaGreatDoor
open Go.RowKit
/-- between two passes -/
def PassAt (R : Rel) (n i : Nat) (le : Rel) : Prop := (∀ x y, le x y = true → War R n x y = true) ∧ ∀ x y, War R i x y = true → le x y = true
set_option maxRecDepth 100000 in
set_option maxHeartbeats 4000000 in
theorem rclose_any (n : Nat) (R : Rel) (cs : Array Value) (hout : ∀ x y, n ≤ x → R x y = false) (hfar : ∀ x y, n ≤ y → R x y = false) (h : LeV n R cs) (w : World) :
    Calls Tryz.prog 21 #[.agg cs] w fun e w' => Below w.heap.size w w' ∧ ∃ cs', e = .returned (.agg cs') ∧ LeV n (War R n) cs' := by
  have hn8 := h.2.1
  have h0 : LeAt w.heap.size n R (w.alloc (.cells cs 33)) := ⟨cs, heap_alloc_new w _, h⟩
  have f0 := (Below.refl w.heap.size w).alloc (Nat.le_refl _) (.cells cs 33)
  have hz : (w.alloc (.cells cs 33)).heap.size = w.heap.size + 1 := by simp
  have h1 := h0.below ((Below.refl _ _).alloc (Nat.le_refl _) (.cells Tryz.zeroCells33 33))
  have g1 := heap_alloc_new (w.alloc (.cells cs 33)) (.cells Tryz.zeroCells33 33)
  have f1 := below_trL f0 ((Below.refl _ _).alloc (Nat.le_refl _) (.cells Tryz.zeroCells33 33))
  rw [hz] at g1
  generalize hW2 : (w.alloc (.cells cs 33)).alloc (.cells Tryz.zeroCells33 33) = W2 at *
  have HW2 := Lib.hid hW2
  have HO := Lib.hid hout; have HF := Lib.hid hfar
  have HZ := Lib.hid hz
  clear h hW2 f0 h0 hout hfar hz
  go_enter Tryz.func21, Tryz.ntmps21
  go_upto_region 1 with (fail)
  try rw [HZ.out]
  rw [HW2.out]
  generalize hB : w.heap.size = B at *
  have HB := Lib.hid hB
  clear hB HW2 HZ
  go_wp2_with fail
  go_loopw [3] (fun iv wr => ∃ (i : Nat) (le : Rel), iv = .int .i64 (i : Int) ∧ i ≤ 8 ∧ Hid (LeAt B n le wr ∧ wr.heap[B + 1]? = some (.cells Tryz.zeroCells33 33 (0, 0)) ∧ Below B w wr ∧ PassAt R n i le)) (fun iv _ => 8 - (intOf iv).toNat)
  case atStart => exact ⟨0, R, rfl, by omega, Lib.hid ⟨h1, g1, f1, fun x y k => War.le R (Nat.zero_le n) k, fun x y k => k⟩⟩
  case round =>
    clear h1 g1 f1
    obtain ⟨i, le, rfl, hi, hq⟩ := hrel
    by_cases hil : i < 8
    · have t0 : decide ((i : Int) < 8) = true := by simp; omega
      have t0' : (i : Int) < 8 := by omega
      go_wp2_with fail
      go_loopw [4] (fun iv wr => ∃ (a : Nat) (le : Rel), iv = .int .i64 (a : Int) ∧ a ≤ n ∧ Hid (LeAt B n le wr ∧ wr.heap[B + 1]? = some (.cells Tryz.zeroCells33 33 (0, 0)) ∧ Below B w wr ∧ TriAt R n i le a 0 0)) (fun iv _ => n - (intOf iv).toNat)
      case atStart => exact ⟨0, le, rfl, Nat.zero_le _, Lib.hid ⟨hq.out.1, hq.out.2.1, hq.out.2.2.1, TriAt.start hq.out.2.2.2.1 hq.out.2.2.2.2⟩⟩
      case round =>
        clear hq
        obtain ⟨a, le, rfl, ha, hq⟩ := hrel
        have c0 := hq.out.1.cellN
        by_cases hal : a < n
        · have t1 : decide ((a : Int) < (n : Int)) = true := by simp; omega
          go_wp2_with fail
          go_loopw [5] (fun iv wr => ∃ (b : Nat) (le : Rel), iv = .int .i64 (b : Int) ∧ b ≤ n ∧ Hid (LeAt B n le wr ∧ wr.heap[B + 1]? = some (.cells Tryz.zeroCells33 33 (0, 0)) ∧ Below B w wr ∧ TriAt R n i le a b 0)) (fun iv _ => n - (intOf iv).toNat)
          case atStart => exact ⟨0, le, rfl, Nat.zero_le _, hq⟩
          case round =>
            clear hq c0
            obtain ⟨b, le, rfl, hb, hq⟩ := hrel
            have c0 := hq.out.1.cellN
            by_cases hbl : b < n
            · have t2 : decide ((b : Int) < (n : Int)) = true := by simp; omega
              go_wp2_with fail
              go_loopw [6] (fun iv wr => ∃ (c : Nat) (le : Rel), iv = .int .i64 (c : Int) ∧ c ≤ n ∧ Hid (LeAt B n le wr ∧ wr.heap[B + 1]? = some (.cells Tryz.zeroCells33 33 (0, 0)) ∧ Below B w wr ∧ TriAt R n i le a b c)) (fun iv _ => n - (intOf iv).toNat)
              case atStart => exact ⟨0, le, rfl, Nat.zero_le _, hq⟩
              case round =>
                clear hq c0
                obtain ⟨c, le, rfl, hc, hq⟩ := hrel
                have c0 := hq.out.1.cellN
                by_cases hcl : c < n
                · have t3 : decide ((c : Int) < (n : Int)) = true := by simp; omega
                  have ha8 : a < 8 := by omega
                  have hb8 : b < 8 := by omega
                  have hc8 : c < 8 := by omega
                  have k1 : (a : Int) < 8 := by omega
                  have k2 : (b : Int) < 8 := by omega
                  have k3 : (c : Int) < 8 := by omega
                  have cab := hq.out.1.cell ha8 hb8
                  have cbc := hq.out.1.cell hb8 hc8
                  have cac := hq.out.1.cell ha8 hc8
                  have fac := hq.out.1.free (1 + a * 8 + c)
                  have HS := Lib.hid (hq.out.1.set (le' := triW le a b c) ha8 hc8)
                  have HST := Lib.hid (fun (k1 : le a b = true) (k2 : le b c = true) => (show ∀ x y, triW le a b c x y = if x = a ∧ y = c then true else le x y from fun x y => by unfold triW; simp [k1, k2]))
                  have HY := Lib.hid (hq.out.2.2.2.step (c := c) hbl)
                  have HN := Lib.hid (fun k => hq.out.2.2.2.stay (c := c) k)
                  cases e1 : le a b with
                  | false =>
                    rw [e1] at cab
                    have HQ := Lib.hid (HN.out (by rw [e1]; simp))
                    go_wp2_with fail
                    go_roundw
                    case rel => exact ⟨c + 1, le, by go_num, by omega, Lib.hid ⟨hq.out.1, hq.out.2.1, hq.out.2.2.1, HQ.out⟩⟩
                    case measure => simp [intOf]; omega
                  | true =>
                    rw [e1] at cab
                    cases e2 : le b c with
                    | false =>
                      rw [e2] at cbc
                      have HQ := Lib.hid (HN.out (by rw [e2]; simp))
                      go_wp2_with fail
                      go_roundw
                      case rel => exact ⟨c + 1, le, by go_num, by omega, Lib.hid ⟨hq.out.1, hq.out.2.1, hq.out.2.2.1, HQ.out⟩⟩
                      case measure => simp [intOf]; omega
                    | true =>
                      rw [e2] at cbc
                      have hset := HS.out (HST.out e1 e2)
                      have hfr := (Fr.refl [B] wr).setCell ⟨B, 1 + a * 8 + c, none⟩ (by simp) (.bool true)
                      have HQ := Lib.hid (show LeAt B n (triW le a b c) (wr.setCell ⟨B, 1 + a * 8 + c, none⟩ (.bool true)) ∧ (wr.setCell ⟨B, 1 + a * 8 + c, none⟩ (.bool true)).heap[B + 1]? = some (.cells Tryz.zeroCells33 33 (0, 0)) ∧ Below B w (wr.setCell ⟨B, 1 + a * 8 + c, none⟩ (.bool true)) ∧ TriAt R n i (triW le a b c) a b (c + 1) from
                        ⟨hset, hfr.at hq.out.2.1 (by simp), hq.out.2.2.1.setCell (p := ⟨B, 1 + a * 8 + c, none⟩) (Nat.le_refl _) _, HY.out⟩)
                      clear hset hfr HS HST HY HN
                      go_wp2_with fail
                      go_roundw
                      case rel => exact ⟨c + 1, triW le a b c, by go_num, by omega, HQ⟩
                      case measure => simp [intOf]; omega
                · have t3 : decide ((c : Int) < (n : Int)) = false := by simp; omega
                  obtain rfl : n = c := by omega
                  have HQ := Lib.hid (show _ ∧ _ ∧ _ ∧ TriAt R n i le a (b + 1) 0 from ⟨hq.out.1, hq.out.2.1, hq.out.2.2.1, hq.out.2.2.2.col⟩)
                  clear hq
                  go_wp2_with fail
                  go_roundw
                  case rel => exact ⟨b + 1, le, by go_num, by omega, HQ⟩
                  case measure => simp [intOf]; omega
            · have t2 : decide ((b : Int) < (n : Int)) = false := by simp; omega
              obtain rfl : n = b := by omega
              have HQ := Lib.hid (show _ ∧ _ ∧ _ ∧ TriAt R n i le (a + 1) 0 0 from ⟨hq.out.1, hq.out.2.1, hq.out.2.2.1, hq.out.2.2.2.row⟩)
              clear hq
              go_wp2_with fail
              go_roundw
              case rel => exact ⟨a + 1, le, by go_num, by omega, HQ⟩
              case measure => simp [intOf]; omega
        · have t1 : decide ((a : Int) < (n : Int)) = false := by simp; omega
          obtain rfl : n = a := by omega
          have HQ := Lib.hid (show _ ∧ _ ∧ _ ∧ PassAt R n (i + 1) le from ⟨hq.out.1, hq.out.2.1, hq.out.2.2.1, hq.out.2.2.2.1, hq.out.2.2.2.done HO.out HF.out⟩)
          clear hq
          go_wp2_with fail
          go_roundw
          case rel => exact ⟨i + 1, le, by go_num, by omega, HQ⟩
          case measure => simp [intOf]; omega
    · have t0 : decide ((i : Int) < 8) = false := by simp; omega
      obtain rfl : i = 8 := by omega
      obtain ⟨⟨cs', hg, hv⟩, hz, hbw, hp1, hp2⟩ := hq.out
      have hle := closed8 hn8 hp1 hp2
      rw [hle] at hv
      have hone := hv.one
      have hsz := hv.1
      have HV := Lib.hid hv
      clear hq hp1 hp2 hle hv
      go_wp2_with (first | (refine wpList_loadG rfl rfl rfl (by kernel_rfl) (n := 65) (by kernel_rfl) hg hsz ?_) | (refine wpList_rown rfl rfl rfl rfl rfl (n := 65) (by kernel_rfl) hz hsz rfl hone ?_; intro wn hgn FFn))
      refine bodyPost_ret (v := .agg cs') (results_cell_row rfl _ _ (B + 1) 33 cs' (0, 0) _ rfl hgn Tryz.underlying33 rfl (by rw [hsz]; kernel_rfl)) rfl ?_
      exact ⟨by rw [HB.out]; exact hbw.trans (FFn.below (by have := lt_of_block hg; omega) (by simp)), cs', rfl, HV.out⟩
end Go.Proofs.YtkbcdlabfbonoaaGreatDoor
