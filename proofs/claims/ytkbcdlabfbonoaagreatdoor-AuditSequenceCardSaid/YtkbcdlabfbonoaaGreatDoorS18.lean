/-
  La7 in one text.
-/
import Derived.Below
import Derived.BigFrame
import Derived.Deep.Cut
import Derived.Deep.DeepCutAuto
import Derived.Deep.QuietTactic
import Derived.Deep.RegionHeld3
import Derived.IntWalk
import Derived.KernelRfl
import Derived.Laws.Unary
import Derived.Lib.Builder
import Derived.Lib.Hide
import Derived.LoopTactic
import Derived.OneCell
import Derived.OwnWalk
import Derived.ProofKit
import Derived.RegionTactic
import Derived.Scope
import Derived.Tactics
import Derived.Test.YtkbcdlabfbonoaaGreatDoorChecked
import Derived.Test.YtkbcdlabfbonoaaGreatDoorS01
import Derived.Test.YtkbcdlabfbonoaaGreatDoorS12
import Derived.Test.YtkbcdlabfbonoaaGreatDoorS13
import Derived.Test.YtkbcdlabfbonoaaGreatDoorS14
import Derived.Test.YtkbcdlabfbonoaaGreatDoorS15
import Derived.Test.YtkbcdlabfbonoaaGreatDoorS16
namespace Go.Proofs.YtkbcdlabfbonoaaGreatDoor
open Go.RowKit
theorem u8_andb (f g : Nat → Bool) : Go.bits .and .u8 ((bits f : Nat) : Int) ((bits g : Nat) : Int) = ((bits (fun y => f y && g y) : Nat) : Int) := by rw [u8_and (bits_lt f) (bits_lt g), bits_and]
/-- have two labels a least one above, and one below; are they no twins -/
def jn (le : Rel) (a c : Nat) : Option Nat := leastC (fun y => le a y && le c y) le
def pairP (le : Rel) (a c : Nat) : Bool := !(!(Nat.beq a c) && le a c && le c a) && (jn le a c).isSome && (jn (flip le) a c).isSome
def latB (n : Nat) (le : Rel) : Bool := (List.range n).all fun a => (List.range n).all fun c => pairP le a c
theorem latB_no {n : Nat} {le : Rel} {a c : Nat} (ha : a < n) (hc : c < n) (h : pairP le a c = false) : latB n le = false := by
  cases hl : latB n le with
  | false => rfl
  | true =>
    have := List.all_eq_true.1 (List.all_eq_true.1 hl a (List.mem_range.2 ha)) c (List.mem_range.2 hc)
    rw [h] at this; cases this
theorem latB_yes {n : Nat} {le : Rel} (h : ∀ a, a < n → ∀ c, c < n → pairP le a c = true) : latB n le = true :=
  List.all_eq_true.2 fun a ha => List.all_eq_true.2 fun c hc => h a (List.mem_range.1 ha) c (List.mem_range.1 hc)
theorem setCell_at {w : World} {b i j : Nat} {T : TypeId} {cs : Array Value} (h : w.heap[b]? = some (.cells cs T (0, 0))) (hj : j < cs.size) (v : Value) : (w.setCell ⟨b, i, none⟩ v).cell? ⟨b, j, none⟩ = if i = j then some v else w.cell? ⟨b, j, none⟩ := by
  rw [Lib.cell_of_heap (heap_setN h i v), Lib.cell_of_heap h]
  by_cases e : i = j
  · subst e; rw [if_pos rfl, Array.getElem?_setIfInBounds_self_of_lt hj]
  · rw [if_neg e, Array.getElem?_setIfInBounds_ne e]
theorem LatAt.cellS {b n : Nat} {U D : Nat → Nat → Bool} {w : World} (h : LatAt b n U D w) {i j : Nat} (hj : j < 145) (v : Value) : (w.setCell ⟨b, i, none⟩ v).cell? ⟨b, j, none⟩ = if i = j then some v else w.cell? ⟨b, j, none⟩ := by
  obtain ⟨cs, h0, hs, _⟩ := h
  exact setCell_at h0 (by omega) v
set_option maxRecDepth 100000 in
set_option maxHeartbeats 16000000 in
theorem ltables_any (b n : Nat) (le : Rel) (w : World) (h : LatAt b n le (flip le) w) :
    Calls Tryz.prog 20 #[.pointer (some ⟨b, 0, none⟩)] w fun e w' => e = .returned (.bool (latB n le)) ∧ LatAt b n le (flip le) w' ∧ Fr [b] w w' := by
  have hn8 := h.le8
  have c0 := h.cellN
  have H := Lib.hid h; clear h
  go_enter Tryz.func20, Tryz.ntmps20
  go_wp2_with fail
  refine wp_scope_straight ?_
  go_wp2_with fail
  refine wp_label ?_
  go_wp2_with fail
  go_loopw [3, 11] (fun u v wr => ∃ a : Nat, u = .bool true ∧ v = .int .i64 (a : Int) ∧ a ≤ n ∧ Hid (LatAt b n le (flip le) wr ∧ Fr [b] w wr ∧ ∀ x, x < a → ∀ y, y < n → pairP le x y = true)) (fun _ v _ => n - (intOf v).toNat)
  case atStart => exact ⟨0, rfl, rfl, Nat.zero_le _, Lib.hid ⟨H.out, Fr.refl _ _, fun x hx => by omega⟩⟩
  case round =>
    clear c0 H
    obtain ⟨a, rfl, rfl, ha, hq⟩ := hrel
    by_cases hal : a < n
    · have t0 : decide ((a : Int) < (n : Int)) = true := by simp; omega
      have c0 := hq.out.1.cellN
      go_wp2_with fail
      go_loopw [3, 18] (fun u v wr => ∃ c : Nat, u = .bool true ∧ v = .int .i64 (c : Int) ∧ c ≤ n ∧ Hid (LatAt b n le (flip le) wr ∧ Fr [b] w wr ∧ (∀ x, x < a → ∀ y, y < n → pairP le x y = true) ∧ ∀ y, y < c → pairP le a y = true)) (fun _ v _ => n - (intOf v).toNat)
      case atStart => exact ⟨0, rfl, rfl, Nat.zero_le _, Lib.hid ⟨hq.out.1, hq.out.2.1, hq.out.2.2, fun x hx => by omega⟩⟩
      case round =>
        clear c0 hq
        obtain ⟨c, rfl, rfl, hc, hq⟩ := hrel
        by_cases hcl : c < n
        · have t1 : decide ((c : Int) < (n : Int)) = true := by simp; omega
          have ha8 : a < 8 := by omega
          have hc8 : c < 8 := by omega
          have a0 : (a : Int) < 8 := by omega
          have a1 : (c : Int) < 8 := by omega
          obtain ⟨hL, hFr, hP, hP2⟩ := hq.out
          have HP := Lib.hid hP; have HP2 := Lib.hid hP2; clear hP hP2 hq
          have cA : wr.drew.cell? ⟨b, 1 + a, none⟩ = _ := hL.cellU ha8
          have cC : wr.drew.cell? ⟨b, 1 + c, none⟩ = _ := hL.cellU hc8
          obtain ⟨k1, cJ⟩ : ∃ k : Int, wr.drew.cell? ⟨b, 17 + a * 8 + c, none⟩ = some (.int .i8 k) := hL.cellJ (by omega) (by omega)
          have fJ : wr.drew.frozen? ⟨b, 17 + a * 8 + c, none⟩ = false := hL.free _
          have e1 := u8_andb (le a) (le c)
          have HLe := Lib.hid (least_any b 1 (fun y => le a y && le c y) le wr.drew (fun x hx => hL.cellU hx))
          have hJ : leastC (fun y => le a y && le c y) le = jn le a c := rfl
          rw [hJ] at HLe
          have HL := Lib.hid hL; have HFr := Lib.hid hFr
          have HKS := Lib.hid (fun (v : Value) => (show (wr.setCell ⟨b, 17 + a * 8 + c, none⟩ v).drew.cell? ⟨b, 1 + a, none⟩ = some (.int .u8 ((bits (le a) : Nat) : Int)) ∧ (wr.setCell ⟨b, 17 + a * 8 + c, none⟩ v).drew.cell? ⟨b, 1 + c, none⟩ = some (.int .u8 ((bits (le c) : Nat) : Int)) from ⟨(hL.cellS (by omega) v).trans (by rw [if_neg (by omega)]; exact cA), (hL.cellS (by omega) v).trans (by rw [if_neg (by omega)]; exact cC)⟩))
          clear hL hFr hJ
          go_upto_region 8 with (fail)
          go_region_held3 (fun z => z.cell? ⟨b, 1 + a, none⟩ = some (.int .u8 ((bits (le a) : Nat) : Int)) ∧ z.cell? ⟨b, 1 + c, none⟩ = some (.int .u8 ((bits (le c) : Nat) : Int))) (first | with_reducible exact ⟨cA, cC⟩ | with_reducible exact HKS.out _ | go_keep) ((go_at_call 36; (with_reducible refine (HLe.out).mono ?_); rintro e w' ⟨rfl, rfl⟩))
          have hL1 := (HL.out.setJ (j := 17 + a * 8 + c) (by omega) (optI (jn le a c))).drew
          have hF1 := (HFr.out.setCell ⟨b, 17 + a * 8 + c, none⟩ (by simp) (.int .i8 (optI (jn le a c)))).drew
          have hJ1 : (wr.setCell ⟨b, 17 + a * 8 + c, none⟩ (.int .i8 (optI (jn le a c)))).drew.cell? ⟨b, 17 + a * 8 + c, none⟩ = some (.int .i8 (optI (jn le a c))) := (HL.out.cellS (by omega) _).trans (if_pos rfl)
          clear cA cC cJ fJ e1 HLe HKS HL HFr
          generalize (wr.setCell ⟨b, 17 + a * 8 + c, none⟩ (.int .i8 (optI (jn le a c)))).drew = V1 at *
          have cA : V1.drew.cell? ⟨b, 9 + a, none⟩ = some (.int .u8 ((bits (flip le a) : Nat) : Int)) := hL1.cellD ha8
          have cC : V1.drew.cell? ⟨b, 9 + c, none⟩ = some (.int .u8 ((bits (flip le c) : Nat) : Int)) := hL1.cellD hc8
          obtain ⟨k2, cJ⟩ : ∃ k : Int, V1.drew.cell? ⟨b, 81 + a * 8 + c, none⟩ = some (.int .i8 k) := hL1.cellJ (by omega) (by omega)
          have fJ : V1.drew.frozen? ⟨b, 81 + a * 8 + c, none⟩ = false := hL1.free _
          have e1 := u8_andb (flip le a) (flip le c)
          have HLe := Lib.hid (least_any b 9 (fun y => flip le a y && flip le c y) (flip le) V1.drew (fun x hx => hL1.cellD hx))
          have hJ : leastC (fun y => flip le a y && flip le c y) (flip le) = jn (flip le) a c := rfl
          rw [hJ] at HLe
          have HKS := Lib.hid (fun (v : Value) => (show (V1.setCell ⟨b, 81 + a * 8 + c, none⟩ v).drew.cell? ⟨b, 9 + a, none⟩ = some (.int .u8 ((bits (flip le a) : Nat) : Int)) ∧ (V1.setCell ⟨b, 81 + a * 8 + c, none⟩ v).drew.cell? ⟨b, 9 + c, none⟩ = some (.int .u8 ((bits (flip le c) : Nat) : Int)) from ⟨(hL1.cellS (by omega) v).trans (by rw [if_neg (by omega)]; exact cA), (hL1.cellS (by omega) v).trans (by rw [if_neg (by omega)]; exact cC)⟩))
          have HL := Lib.hid hL1; have HFr := Lib.hid hF1; have HJ1 := Lib.hid hJ1
          clear hL1 hF1 hJ hJ1
          go_upto_region 9 with (fail)
          go_region_held3 (fun z => z.cell? ⟨b, 9 + a, none⟩ = some (.int .u8 ((bits (flip le a) : Nat) : Int)) ∧ z.cell? ⟨b, 9 + c, none⟩ = some (.int .u8 ((bits (flip le c) : Nat) : Int))) (first | with_reducible exact ⟨cA, cC⟩ | with_reducible exact HKS.out _ | go_keep) ((go_at_call 36; (with_reducible refine (HLe.out).mono ?_); rintro e w' ⟨rfl, rfl⟩))
          have hL2 := (HL.out.setJ (j := 81 + a * 8 + c) (by omega) (optI (jn (flip le) a c))).drew
          have hF2 := (HFr.out.setCell ⟨b, 81 + a * 8 + c, none⟩ (by simp) (.int .i8 (optI (jn (flip le) a c)))).drew
          have hJ2 : (V1.setCell ⟨b, 81 + a * 8 + c, none⟩ (.int .i8 (optI (jn (flip le) a c)))).drew.cell? ⟨b, 81 + a * 8 + c, none⟩ = some (.int .i8 (optI (jn (flip le) a c))) := (HL.out.cellS (by omega) _).trans (if_pos rfl)
          have hJ1 : (V1.setCell ⟨b, 81 + a * 8 + c, none⟩ (.int .i8 (optI (jn (flip le) a c)))).drew.cell? ⟨b, 17 + a * 8 + c, none⟩ = some (.int .i8 (optI (jn le a c))) := (HL.out.cellS (by omega) _).trans (by rw [if_neg (by omega)]; exact HJ1.out)
          clear cA cC cJ fJ e1 HLe HKS HL HFr HJ1
          generalize (V1.setCell ⟨b, 81 + a * 8 + c, none⟩ (.int .i8 (optI (jn (flip le) a c)))).drew = V2 at *
          have cA := hL2.cellU ha8
          have cC := hL2.cellU hc8
          have b1 := u8_shr (le a) hc8 .i64
          have b2 := u8_bit (le a) hc8
          have b3 := u8_shr (le c) ha8 .i64
          have b4 := u8_bit (le c) ha8
          have HL := Lib.hid hL2; have HFr := Lib.hid hF2
          clear hL2 hF2
          have HPP : Hid (pairP le a c = (!(!(Nat.beq a c) && le a c && le c a) && (jn le a c).isSome && (jn (flip le) a c).isSome)) := Lib.hid rfl
          have HNO := Lib.hid (fun h => latB_no (le := le) hal hcl h)
          have HYES := Lib.hid (fun (h : pairP le a c = true) => (show ∀ y, y < c + 1 → pairP le a y = true from fun y hy => by
            by_cases e : y = c
            · rw [e]; exact h
            · exact HP2.out y (by omega)))
          generalize pairP le a c = pp at *
          generalize jn le a c = j1 at *
          generalize jn (flip le) a c = j2 at *
          go_upto_region 10 with (fail)
          go_cut [6] (fun v wx => v = .bool (!(Nat.beq a c) && le a c && le c a) ∧ V2 = wx)
          case first =>
            clear hJ1 hJ2
            generalize le a c = t1 at *
            generalize le c a = t2 at *
            by_cases hac : a = c
            · have g1 : ((a : Int) != (c : Int)) = false := by simp [hac]
              have g2 : Nat.beq a c = true := by rw [hac]; exact Nat.beq_refl c
              clear hac
              go_wp2_with fail
              go_meet
              exact ⟨by rw [g2]; rfl, rfl⟩
            · have g1 : ((a : Int) != (c : Int)) = true := by rw [bne_iff_ne]; omega
              have g2 : Nat.beq a c = false := by cases h : Nat.beq a c with | false => rfl | true => exact absurd (Nat.eq_of_beq_eq_true h) hac
              clear hac
              cases t1 <;> cases t2 <;> (go_wp2_with fail; go_meet; exact ⟨by rw [g2]; rfl, rfl⟩)
          case rest =>
            obtain ⟨rfl, rfl⟩ := hcut
            clear cA cC b1 b2 b3 b4 a0 a1
            generalize (!(Nat.beq a c) && le a c && le c a) = tw at *
            cases tw with
            | true =>
              have HN := Lib.hid (HNO.out (by rw [HPP.out]; rfl))
              go_wp2_with fail
              show bodyPost Tryz.prog Tryz.f20 (fun e w' => e = Ending.returned (Value.bool (latB n le)) ∧ LatAt b n le (flip le) w' ∧ Fr [b] w w') Exit.ret _ _
              go_ret
              exact ⟨lret (by rw [HN.out]; rfl), HL.out, HFr.out⟩
            | false =>
              cases j1 with
              | none =>
                have HN := Lib.hid (HNO.out (by rw [HPP.out]; rfl))
                rw [show optI none = (-1 : Int) from rfl] at hJ1
                go_wp2_with fail
                show bodyPost Tryz.prog Tryz.f20 (fun e w' => e = Ending.returned (Value.bool (latB n le)) ∧ LatAt b n le (flip le) w' ∧ Fr [b] w w') Exit.ret _ _
                go_ret
                exact ⟨lret (by rw [HN.out]; rfl), HL.out, HFr.out⟩
              | some x1 =>
                rw [show optI (some x1) = (x1 : Int) from rfl] at hJ1
                cases j2 with
                | none =>
                  have HN := Lib.hid (HNO.out (by rw [HPP.out]; rfl))
                  rw [show optI none = (-1 : Int) from rfl] at hJ2
                  go_wp2_with fail
                  show bodyPost Tryz.prog Tryz.f20 (fun e w' => e = Ending.returned (Value.bool (latB n le)) ∧ LatAt b n le (flip le) w' ∧ Fr [b] w w') Exit.ret _ _
                  go_ret
                  exact ⟨lret (by rw [HN.out]; rfl), HL.out, HFr.out⟩
                | some x2 =>
                  rw [show optI (some x2) = (x2 : Int) from rfl] at hJ2
                  have HY := Lib.hid (HYES.out (by rw [HPP.out]; rfl))
                  go_wp2_with fail
                  go_roundw
                  case rel => exact ⟨c + 1, rfl, by go_num, by omega, Lib.hid ⟨HL.out, HFr.out, HP.out, HY.out⟩⟩
                  case measure => simp [intOf]; omega
        · have t1 : decide ((c : Int) < (n : Int)) = false := by simp; omega
          obtain rfl : n = c := by omega
          go_wp2_with fail
          go_roundw
          case rel => exact ⟨a + 1, rfl, by go_num, by omega, Lib.hid ⟨hq.out.1, hq.out.2.1, fun x hx y hy => by
            by_cases e : x = a
            · rw [e]; exact hq.out.2.2.2 y hy
            · exact hq.out.2.2.1 x (by omega) y hy⟩⟩
          case measure => simp [intOf]; omega
    · have t0 : decide ((a : Int) < (n : Int)) = false := by simp; omega
      obtain rfl : n = a := by omega
      have HLB := Lib.hid (latB_yes (fun x hx y hy => hq.out.2.2 x hx y hy))
      go_wp2_with fail
      show bodyPost Tryz.prog Tryz.f20 (fun e w' => e = Ending.returned (Value.bool (latB n le)) ∧ LatAt b n le (flip le) w' ∧ Fr [b] w w') Exit.ret _ _
      go_ret
      exact ⟨lret (by show Value.bool true = _; rw [HLB.out]), hq.out.1, hq.out.2.1⟩
end Go.Proofs.YtkbcdlabfbonoaaGreatDoor
