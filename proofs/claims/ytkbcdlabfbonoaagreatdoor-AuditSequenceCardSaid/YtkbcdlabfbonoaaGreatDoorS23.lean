/-
  Lb3 in one text.
-/
import Derived.Below
import Derived.BigFrame
import Derived.Deep.Cut
import Derived.Deep.DeepCutAuto
import Derived.Deep.MidRow
import Derived.Deep.QuietTactic
import Derived.Deep.RegionHeld3
import Derived.IntWalk
import Derived.KernelRfl
import Derived.Laws.Unary
import Derived.Lib.Builder
import Derived.Lib.Hide
import Derived.Lib.MinMax
import Derived.LoopTactic
import Derived.OneCell
import Derived.OwnWalk
import Derived.ProofKit
import Derived.RegionTactic
import Derived.Scope
import Derived.Tactics
import Derived.Test.YtkbcdlabfbonoaaGreatDoorChecked
import Derived.Test.YtkbcdlabfbonoaaGreatDoorEv3
import Derived.Test.YtkbcdlabfbonoaaGreatDoorS12
import Derived.Test.YtkbcdlabfbonoaaGreatDoorS21
namespace Go.Proofs.YtkbcdlabfbonoaaGreatDoor
open Go.RowKit
theorem all_succ (f : Nat → Bool) (d : Nat) : (List.range (d + 1)).all f = ((List.range d).all f && f d) := by rw [List.range_succ, List.all_append]; simp
set_option maxRecDepth 100000 in
set_option maxHeartbeats 4000000 in
theorem rJoin_any (n : Nat) (le : Rel) (cs : Array Value) (h : LeV n le cs) (a b : Nat) (ha : a < n) (hb : b < n) (w : World) :
    Calls Tryz.prog 22 #[.agg cs, .int .i64 (a : Int), .int .i64 (b : Int)] w fun e w' => ∃ r : Int, e = .returned (.int .i64 r) ∧ decide (r < 0) = !(hasJ n le a b) ∧ Below w.heap.size w w' := by
  have hn8 := h.2.1
  have ha8 : a < 8 := by omega
  have hb8 : b < 8 := by omega
  have k1 : (a : Int) < 8 := by omega
  have k2 : (b : Int) < 8 := by omega
  have h0 : LeAt w.heap.size n le (w.alloc (.cells cs 33)) := ⟨cs, heap_alloc_new w _, h⟩
  have f0 := (Below.refl w.heap.size w).alloc (Nat.le_refl _) (.cells cs 33)
  clear h
  go_enter Tryz.func22, Tryz.ntmps22
  go_upto_region 1 with (fail)
  generalize w.alloc (.cells cs 33) = W1 at *
  go_wp2_with fail
  go_loopw [7] (fun iv wr => ∃ c : Nat, iv = .int .i64 (c : Int) ∧ c ≤ n ∧ Hid (LeAt w.heap.size n le wr ∧ Below w.heap.size w wr ∧ ∀ x, x < c → joinOk n le a b x = false)) (fun iv _ => n - (intOf iv).toNat)
  case atStart => exact ⟨0, rfl, Nat.zero_le _, Lib.hid ⟨h0, f0, fun x hx => by omega⟩⟩
  case round =>
    clear h0 f0
    obtain ⟨c, rfl, hc, hq⟩ := hrel
    have c0 := hq.out.1.cellN
    by_cases hcl : c < n
    · have t0 : decide ((c : Int) < (n : Int)) = true := by simp; omega
      have hc8 : c < 8 := by omega
      have k3 : (c : Int) < 8 := by omega
      have HNx := Lib.hid (fun (k : joinOk n le a b c = false) => (show ∀ x, x < c + 1 → joinOk n le a b x = false from fun x hx => by
        by_cases e : x = c
        · rw [e]; exact k
        · exact hq.out.2.2 x (by omega)))
      have cac := hq.out.1.cell ha8 hc8
      have cbc := hq.out.1.cell hb8 hc8
      cases e1 : le a c with
      | false =>
        have HN := Lib.hid (HNx.out (by show (le a c && le b c && _) = false; rw [e1]; rfl))
        rw [e1] at cac
        go_wp2_with fail
        go_roundw
        case rel => exact ⟨c + 1, by go_num, by omega, Lib.hid ⟨hq.out.1, hq.out.2.1, HN.out⟩⟩
        case measure => simp [intOf]; omega
      | true =>
        rw [e1] at cac
        cases e2 : le b c with
        | false =>
          have HN := Lib.hid (HNx.out (by show (le a c && le b c && _) = false; rw [e1, e2]; rfl))
          rw [e2] at cbc
          go_wp2_with fail
          go_roundw
          case rel => exact ⟨c + 1, by go_num, by omega, Lib.hid ⟨hq.out.1, hq.out.2.1, HN.out⟩⟩
          case measure => simp [intOf]; omega
        | true =>
          rw [e2] at cbc
          have HJ := Lib.hid (show joinOk n le a b c = (List.range n).all fun d => !(le a d && le b d) || le c d from by show (le a c && le b c && _) = _; rw [e1, e2]; rfl)
          go_wp2_with fail
          go_loopw [8, 9] (fun bv iv wx => ∃ (d : Nat) (lb : Bool), bv = .bool lb ∧ iv = .int .i64 (d : Int) ∧ d ≤ n ∧ Hid (LeAt w.heap.size n le wx ∧ Below w.heap.size w wx ∧ lb = (List.range d).all fun d => !(le a d && le b d) || le c d)) (fun _ iv _ => n - (intOf iv).toNat)
          case atStart => exact ⟨0, true, rfl, rfl, Nat.zero_le _, Lib.hid ⟨hq.out.1, hq.out.2.1, rfl⟩⟩
          case round =>
            clear hq c0 cac cbc
            obtain ⟨d, lb, rfl, rfl, hd, hq⟩ := hrel
            have c0 := hq.out.1.cellN
            by_cases hdl : d < n
            · have t1 : decide ((d : Int) < (n : Int)) = true := by simp; omega
              have hd8 : d < 8 := by omega
              have k4 : (d : Int) < 8 := by omega
              have cad := hq.out.1.cell ha8 hd8
              have cbd := hq.out.1.cell hb8 hd8
              have ccd := hq.out.1.cell hc8 hd8
              cases e3 : le a d with
              | false =>
                have HNw := Lib.hid (show lb = (List.range (d + 1)).all fun d => !(le a d && le b d) || le c d from by rw [all_succ, ← hq.out.2.2, e3]; simp)
                rw [e3] at cad
                go_wp2_with fail
                go_roundw
                case rel => exact ⟨d + 1, _, rfl, by go_num, by omega, Lib.hid ⟨hq.out.1, hq.out.2.1, HNw.out⟩⟩
                case measure => simp [intOf]; omega
              | true =>
                rw [e3] at cad
                cases e4 : le b d with
                | false =>
                  have HNw := Lib.hid (show lb = (List.range (d + 1)).all fun d => !(le a d && le b d) || le c d from by rw [all_succ, ← hq.out.2.2, e4]; simp)
                  rw [e4] at cbd
                  go_wp2_with fail
                  go_roundw
                  case rel => exact ⟨d + 1, _, rfl, by go_num, by omega, Lib.hid ⟨hq.out.1, hq.out.2.1, HNw.out⟩⟩
                  case measure => simp [intOf]; omega
                | true =>
                  rw [e4] at cbd
                  cases e5 : le c d with
                  | true =>
                    have HNw := Lib.hid (show lb = (List.range (d + 1)).all fun d => !(le a d && le b d) || le c d from by rw [all_succ, ← hq.out.2.2, e5]; simp)
                    rw [e5] at ccd
                    go_wp2_with fail
                    go_roundw
                    case rel => exact ⟨d + 1, _, rfl, by go_num, by omega, Lib.hid ⟨hq.out.1, hq.out.2.1, HNw.out⟩⟩
                    case measure => simp [intOf]; omega
                  | false =>
                    have HNw := Lib.hid (show false = (List.range (d + 1)).all fun d => !(le a d && le b d) || le c d from by rw [all_succ, e3, e4, e5]; simp)
                    rw [e5] at ccd
                    go_wp2_with fail
                    go_roundw
                    case rel => exact ⟨d + 1, _, rfl, by go_num, by omega, Lib.hid ⟨hq.out.1, hq.out.2.1, HNw.out⟩⟩
                    case measure => simp [intOf]; omega
            · have t1 : decide ((d : Int) < (n : Int)) = false := by simp; omega
              obtain rfl : n = d := by omega
              have hJ := HJ.out.trans hq.out.2.2.symm
              cases lb with
              | true =>
                have HE := Lib.hid (show ∃ r : Int, Ending.returned (Value.int .i64 (c : Int)) = .returned (.int .i64 r) ∧ decide (r < 0) = !(hasJ n le a b) from ⟨(c : Int), rfl, by
                  have : hasJ n le a b = true := List.any_eq_true.2 ⟨c, List.mem_range.2 hcl, hJ⟩
                  rw [this]; simp⟩)
                have HB := Lib.hid hq.out.2.1
                clear hJ HJ hq
                go_wp2_with fail
                go_ret
                obtain ⟨r, h1, h2⟩ := HE.out
                exact ⟨r, h1, h2, HB.out⟩
              | false =>
                have HN := Lib.hid (HNx.out hJ)
                clear hJ HJ
                go_wp2_with fail
                go_roundw
                case rel => exact ⟨c + 1, by go_num, by omega, Lib.hid ⟨hq.out.1, hq.out.2.1, HN.out⟩⟩
                case measure => simp [intOf]; omega
    · have t0 : decide ((c : Int) < (n : Int)) = false := by simp; omega
      obtain rfl : n = c := by omega
      have HE := Lib.hid (show decide ((-1 : Int) < 0) = !(hasJ n le a b) from by
        have : hasJ n le a b = false := by
          unfold hasJ
          rw [List.any_eq_false]
          intro x hx
          rw [hq.out.2.2 x (List.mem_range.1 hx)]; simp
        rw [this]; rfl)
      have HB := Lib.hid hq.out.2.1
      clear hq
      go_wp2_with fail
      go_ret
      exact ⟨-1, rfl, HE.out, HB.out⟩
set_option maxRecDepth 100000 in
set_option maxHeartbeats 4000000 in
theorem rMeet_any (n : Nat) (le : Rel) (cs : Array Value) (h : LeV n le cs) (a b : Nat) (ha : a < n) (hb : b < n) (w : World) :
    Calls Tryz.prog 23 #[.agg cs, .int .i64 (a : Int), .int .i64 (b : Int)] w fun e w' => ∃ r : Int, e = .returned (.int .i64 r) ∧ decide (r < 0) = !(hasJ n (flip le) a b) ∧ Below w.heap.size w w' := by
  have hn8 := h.2.1
  have ha8 : a < 8 := by omega
  have hb8 : b < 8 := by omega
  have k1 : (a : Int) < 8 := by omega
  have k2 : (b : Int) < 8 := by omega
  have h0 : LeAt w.heap.size n le (w.alloc (.cells cs 33)) := ⟨cs, heap_alloc_new w _, h⟩
  have f0 := (Below.refl w.heap.size w).alloc (Nat.le_refl _) (.cells cs 33)
  clear h
  go_enter Tryz.func23, Tryz.ntmps23
  go_upto_region 1 with (fail)
  generalize w.alloc (.cells cs 33) = W1 at *
  go_wp2_with fail
  go_loopw [7] (fun iv wr => ∃ c : Nat, iv = .int .i64 (c : Int) ∧ c ≤ n ∧ Hid (LeAt w.heap.size n le wr ∧ Below w.heap.size w wr ∧ ∀ x, x < c → joinOk n (flip le) a b x = false)) (fun iv _ => n - (intOf iv).toNat)
  case atStart => exact ⟨0, rfl, Nat.zero_le _, Lib.hid ⟨h0, f0, fun x hx => by omega⟩⟩
  case round =>
    clear h0 f0
    obtain ⟨c, rfl, hc, hq⟩ := hrel
    have c0 := hq.out.1.cellN
    by_cases hcl : c < n
    · have t0 : decide ((c : Int) < (n : Int)) = true := by simp; omega
      have hc8 : c < 8 := by omega
      have k3 : (c : Int) < 8 := by omega
      have HNx := Lib.hid (fun (k : joinOk n (flip le) a b c = false) => (show ∀ x, x < c + 1 → joinOk n (flip le) a b x = false from fun x hx => by
        by_cases e : x = c
        · rw [e]; exact k
        · exact hq.out.2.2 x (by omega)))
      have cac := hq.out.1.cell hc8 ha8
      have cbc := hq.out.1.cell hc8 hb8
      cases e1 : le c a with
      | false =>
        have HN := Lib.hid (HNx.out (by show (le c a && le c b && _) = false; rw [e1]; rfl))
        rw [e1] at cac
        go_wp2_with fail
        go_roundw
        case rel => exact ⟨c + 1, by go_num, by omega, Lib.hid ⟨hq.out.1, hq.out.2.1, HN.out⟩⟩
        case measure => simp [intOf]; omega
      | true =>
        rw [e1] at cac
        cases e2 : le c b with
        | false =>
          have HN := Lib.hid (HNx.out (by show (le c a && le c b && _) = false; rw [e1, e2]; rfl))
          rw [e2] at cbc
          go_wp2_with fail
          go_roundw
          case rel => exact ⟨c + 1, by go_num, by omega, Lib.hid ⟨hq.out.1, hq.out.2.1, HN.out⟩⟩
          case measure => simp [intOf]; omega
        | true =>
          rw [e2] at cbc
          have HJ := Lib.hid (show joinOk n (flip le) a b c = (List.range n).all fun d => !(le d a && le d b) || le d c from by show (le c a && le c b && _) = _; rw [e1, e2]; rfl)
          go_wp2_with fail
          go_loopw [8, 9] (fun bv iv wx => ∃ (d : Nat) (lb : Bool), bv = .bool lb ∧ iv = .int .i64 (d : Int) ∧ d ≤ n ∧ Hid (LeAt w.heap.size n le wx ∧ Below w.heap.size w wx ∧ lb = (List.range d).all fun d => !(le d a && le d b) || le d c)) (fun _ iv _ => n - (intOf iv).toNat)
          case atStart => exact ⟨0, true, rfl, rfl, Nat.zero_le _, Lib.hid ⟨hq.out.1, hq.out.2.1, rfl⟩⟩
          case round =>
            clear hq c0 cac cbc
            obtain ⟨d, lb, rfl, rfl, hd, hq⟩ := hrel
            have c0 := hq.out.1.cellN
            by_cases hdl : d < n
            · have t1 : decide ((d : Int) < (n : Int)) = true := by simp; omega
              have hd8 : d < 8 := by omega
              have k4 : (d : Int) < 8 := by omega
              have cad := hq.out.1.cell hd8 ha8
              have cbd := hq.out.1.cell hd8 hb8
              have ccd := hq.out.1.cell hd8 hc8
              cases e3 : le d a with
              | false =>
                have HNw := Lib.hid (show lb = (List.range (d + 1)).all fun d => !(le d a && le d b) || le d c from by rw [all_succ, ← hq.out.2.2, e3]; simp)
                rw [e3] at cad
                go_wp2_with fail
                go_roundw
                case rel => exact ⟨d + 1, _, rfl, by go_num, by omega, Lib.hid ⟨hq.out.1, hq.out.2.1, HNw.out⟩⟩
                case measure => simp [intOf]; omega
              | true =>
                rw [e3] at cad
                cases e4 : le d b with
                | false =>
                  have HNw := Lib.hid (show lb = (List.range (d + 1)).all fun d => !(le d a && le d b) || le d c from by rw [all_succ, ← hq.out.2.2, e4]; simp)
                  rw [e4] at cbd
                  go_wp2_with fail
                  go_roundw
                  case rel => exact ⟨d + 1, _, rfl, by go_num, by omega, Lib.hid ⟨hq.out.1, hq.out.2.1, HNw.out⟩⟩
                  case measure => simp [intOf]; omega
                | true =>
                  rw [e4] at cbd
                  cases e5 : le d c with
                  | true =>
                    have HNw := Lib.hid (show lb = (List.range (d + 1)).all fun d => !(le d a && le d b) || le d c from by rw [all_succ, ← hq.out.2.2, e5]; simp)
                    rw [e5] at ccd
                    go_wp2_with fail
                    go_roundw
                    case rel => exact ⟨d + 1, _, rfl, by go_num, by omega, Lib.hid ⟨hq.out.1, hq.out.2.1, HNw.out⟩⟩
                    case measure => simp [intOf]; omega
                  | false =>
                    have HNw := Lib.hid (show false = (List.range (d + 1)).all fun d => !(le d a && le d b) || le d c from by rw [all_succ, e3, e4, e5]; simp)
                    rw [e5] at ccd
                    go_wp2_with fail
                    go_roundw
                    case rel => exact ⟨d + 1, _, rfl, by go_num, by omega, Lib.hid ⟨hq.out.1, hq.out.2.1, HNw.out⟩⟩
                    case measure => simp [intOf]; omega
            · have t1 : decide ((d : Int) < (n : Int)) = false := by simp; omega
              obtain rfl : n = d := by omega
              have hJ := HJ.out.trans hq.out.2.2.symm
              cases lb with
              | true =>
                have HE := Lib.hid (show ∃ r : Int, Ending.returned (Value.int .i64 (c : Int)) = .returned (.int .i64 r) ∧ decide (r < 0) = !(hasJ n (flip le) a b) from ⟨(c : Int), rfl, by
                  have : hasJ n (flip le) a b = true := List.any_eq_true.2 ⟨c, List.mem_range.2 hcl, hJ⟩
                  rw [this]; simp⟩)
                have HB := Lib.hid hq.out.2.1
                clear hJ HJ hq
                go_wp2_with fail
                go_ret
                obtain ⟨r, h1, h2⟩ := HE.out
                exact ⟨r, h1, h2, HB.out⟩
              | false =>
                have HN := Lib.hid (HNx.out hJ)
                clear hJ HJ
                go_wp2_with fail
                go_roundw
                case rel => exact ⟨c + 1, by go_num, by omega, Lib.hid ⟨hq.out.1, hq.out.2.1, HN.out⟩⟩
                case measure => simp [intOf]; omega
    · have t0 : decide ((c : Int) < (n : Int)) = false := by simp; omega
      obtain rfl : n = c := by omega
      have HE := Lib.hid (show decide ((-1 : Int) < 0) = !(hasJ n (flip le) a b) from by
        have : hasJ n (flip le) a b = false := by
          unfold hasJ
          rw [List.any_eq_false]
          intro x hx
          rw [hq.out.2.2 x (List.mem_range.1 hx)]; simp
        rw [this]; rfl)
      have HB := Lib.hid hq.out.2.1
      clear hq
      go_wp2_with fail
      go_ret
      exact ⟨-1, rfl, HE.out, HB.out⟩
end Go.Proofs.YtkbcdlabfbonoaaGreatDoor
