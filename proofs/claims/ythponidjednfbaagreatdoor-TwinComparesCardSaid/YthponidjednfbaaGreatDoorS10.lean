/-
  Tw5 in one text.
-/
import Derived.Below
import Derived.BigFrame
import Derived.BigQuiet
import Derived.ChangeArms
import Derived.DataReads
import Derived.Deep.AppendLies
import Derived.Deep.AppendSrc
import Derived.Deep.Cut
import Derived.Deep.DeepCutAuto
import Derived.Deep.MidRow
import Derived.Deep.QuietTactic
import Derived.Deep.RegionHeld3
import Derived.Deep.RegionWith
import Derived.Defers
import Derived.Handy
import Derived.IntWalk
import Derived.Laws.Bits64b
import Derived.Laws.FloatBits
import Derived.Lib.AtoiAll
import Derived.Lib.Builder
import Derived.Lib.Bytealg
import Derived.Lib.Bytes
import Derived.Lib.ConvBytes
import Derived.Lib.FrozenHead2
import Derived.Lib.Hide
import Derived.Lib.IndexMore
import Derived.Lib.ItoaNum
import Derived.Lib.MinMax
import Derived.Lib.OthersKept
import Derived.Lib.ParseIntB
import Derived.Lib.UnsafeStr
import Derived.LoopTactic
import Derived.OneCell
import Derived.OwnWalk
import Derived.Recover
import Derived.RegionTactic
import Derived.Shelf.Abstract
import Derived.SizedLaws
import Derived.StillTailTactics
import Derived.Tactics
import Derived.Tactics2
import Derived.Test.YthponidjednfbaaGreatDoorChecked
import Derived.Test.YthponidjednfbaaGreatDoorEv3
import Derived.WalkKit
import Derived.WalkLawsBesides
import Derived.WalkSpells
import Derived.WideShapes
import Ieee.Arith
import Derived.Test.YthponidjednfbaaGreatDoorS00
import Derived.Test.YthponidjednfbaaGreatDoorS01
import Derived.Test.YthponidjednfbaaGreatDoorS02
import Derived.Test.YthponidjednfbaaGreatDoorS03
import Derived.Test.YthponidjednfbaaGreatDoorS05
import Derived.Test.YthponidjednfbaaGreatDoorS06
import Derived.Test.YthponidjednfbaaGreatDoorS09
namespace Go.Proofs.YthponidjednfbaaGreatDoor
open Go.RowKit
set_option maxRecDepth 100000 in
set_option maxHeartbeats 4000000 in
theorem tCompare_any (d d2 : Nat) (v v' : Value) (a b : List (List EvT)) (w : World) (hv : SlG (entK d) (fun _ => True) w v a) (hv' : SlG (entK d2) (fun _ => True) w v' b) : Calls Tryz.prog 6 #[v, v'] w (Gives (.tuple #[.int .i64 (cmpV 0 a b).1, .bool (cmpV 0 a b).2]) w) := by
  have HV := Lib.hid (fun w' (k : Below w.heap.size w w') => hv.below k)
  have HV' := Lib.hid (fun w' (k : Below w.heap.size w w') => hv'.below k)
  obtain ⟨pa, pc0, rfl, _, _⟩ := hv
  obtain ⟨pb, pc2, rfl, _, _⟩ := hv'
  have h0 : Hid (cmpV 0 a b = cmpV 0 (a.drop 0) (b.drop 0)) := by show _ = _; rw [List.drop_zero, List.drop_zero]
  obtain ⟨R, hR0⟩ : ∃ R, R = cmpV 0 a b := ⟨_, rfl⟩
  rw [← hR0] at h0 ⊢
  clear hR0
  go_enter Tryz.func6, Tryz.ntmps6
  go_wp2_with fail
  go_loopw [4] (fun iv wr => ∃ i : Nat, iv = .int .i64 (i : Int) ∧ i ≤ max a.length b.length ∧ Hid (R = cmpV i (a.drop i) (b.drop i)) ∧ Below w.heap.size w wr) (fun iv _ => max a.length b.length - (intOf iv).toNat)
  case atStart => exact ⟨0, rfl, Nat.zero_le _, h0, Below.refl _ _⟩
  case round =>
    clear h0
    obtain ⟨i, rfl, hi, hR, hb⟩ := hrel
    by_cases ha : i < a.length
    · by_cases hbl : i < b.length
      · have t1 : decide ((i : Int) < max (a.length : Int) (b.length : Int)) = true := by simp; omega
        have t1n : decide (i < max a.length b.length) = true := decide_eq_true (by omega)
        have t2 : decide ((a.length : Int) ≤ (i : Int)) = false := by simp; omega
        have t2n : decide (a.length ≤ i) = false := decide_eq_false (by omega)
        have t3 : decide ((b.length : Int) ≤ (i : Int)) = false := by simp; omega
        have t3n : decide (b.length ≤ i) = false := decide_eq_false (by omega)
        have t4 : decide ((i : Int) < (a.length : Int)) = true := by simp; omega
        have t4n : decide (i < a.length) = true := decide_eq_true (by omega)
        have i0 : (0 : Int) ≤ (i : Int) := by omega
        have i1 : (i : Int) < (a.length : Int) := by omega
        have i2 : (i : Int) < (b.length : Int) := by omega
        obtain ⟨x, hx⟩ : ∃ x, a[i]? = some x := ⟨_, List.getElem?_eq_getElem ha⟩
        obtain ⟨y, hy⟩ : ∃ x, b[i]? = some x := ⟨_, List.getElem?_eq_getElem hbl⟩
        obtain ⟨g, off, rfl, _, hg, ds, hds, hr⟩ := (HV.out wr hb).item hx
        obtain ⟨ux, rfl, hsx⟩ := hds
        obtain ⟨g2, off2, rfl, _, hg2, ds, hds, hr2⟩ := (HV'.out wr hb).item hy
        obtain ⟨uy, rfl, hsy⟩ := hds
        have hdb : Below wr.heap.size wr wr.drew := (Below.refl _ _).drew
        have HS := Lib.hid (eqF_any d d2 _ _ x y wr.drew (hsx.below hdb) (hsy.below hdb))
        have hgl : g < wr.drew.heap.size := hg
        have hgl2 : g2 < wr.drew.heap.size := hg2
        have a0 : wr.drew.cell? ⟨g, off + i, none⟩ = some ux := by have := hr 0 _ rfl; simpa using this
        have c0 : wr.drew.cell? ⟨g2, off2 + i, none⟩ = some uy := by have := hr2 0 _ rfl; simpa using this
        have HR1 := Lib.hid (fun h => cmpV_step (a := a) (b := b) hx hy h)
        have HR2 := Lib.hid (fun h => cmpV_no (a := a) (b := b) hx hy h)
        obtain ⟨pux, cux, eux, _, _⟩ := hsx
        obtain ⟨puy, cuy, euy, _, _⟩ := hsy
        subst eux
        subst euy
        clear hx hy hr hr2 hg hg2
        go_upto_region 3 with (fail)
        go_region_held3 (fun z => z.cell? ⟨g, off + i, none⟩ = some (.slice pux x.length cux) ∧ z.cell? ⟨g2, off2 + i, none⟩ = some (.slice puy y.length cuy)) (first | with_reducible exact ⟨a0, c0⟩ | exact ⟨(hb5.cell (p := ⟨g, off + i, none⟩) hgl).trans a0, (hb5.cell (p := ⟨g2, off2 + i, none⟩) hgl2).trans c0⟩) ((go_at_call 14; (with_reducible refine (HS.out).mono ?_); rintro e w5 ⟨rfl, hb5⟩))
        have hbz := hb.trans ((undrew hb5).mono hb.size)
        cases hp : sameEs x y with
        | true =>
          have HR3 : Hid (R = cmpV (i + 1) (a.drop (i + 1)) (b.drop (i + 1))) := by show _ = _; rw [hR.out, HR1.out hp]
          clear hR HR1 HR2 HS hp hb5 a0 c0
          go_wp2_with fail
          go_roundw
          case rel => exact ⟨i + 1, by go_num, by omega, HR3, hbz⟩
          case measure => simp [intOf]; omega
        | false =>
          have HR3 : Hid (R = ((i : Int), false)) := by show _ = _; rw [hR.out, HR2.out hp]
          clear hR HR1 HR2 HS hp hb5 a0 c0
          go_wp2_with fail
          go_ret2
          exact ⟨ret_val (by rw [HR3.out]; rfl), hbz⟩
      · have t1 : decide ((i : Int) < max (a.length : Int) (b.length : Int)) = true := by simp; omega
        have t1n : decide (i < max a.length b.length) = true := decide_eq_true (by omega)
        have t2 : decide ((a.length : Int) ≤ (i : Int)) = false := by simp; omega
        have t2n : decide (a.length ≤ i) = false := decide_eq_false (by omega)
        have t3 : decide ((b.length : Int) ≤ (i : Int)) = true := by simp; omega
        have t3n : decide (b.length ≤ i) = true := decide_eq_true (by omega)
        have t4 : decide ((i : Int) < (a.length : Int)) = true := by simp; omega
        have t4n : decide (i < a.length) = true := decide_eq_true (by omega)
        have HR3 : Hid (R = ((i : Int), false)) := by show _ = _; rw [hR.out, cmpV_short (.inr ⟨ha, by omega⟩)]
        clear hR
        go_upto_region 3 with (fail)
        go_quiet (fail)
        go_wp2_with fail
        go_ret2
        exact ⟨ret_val (by rw [HR3.out]; rfl), below_tr' hb (drewN_below _ _)⟩
    · have t4 : decide ((i : Int) < (a.length : Int)) = false := by simp; omega
      have t4n : decide (i < a.length) = false := decide_eq_false (by omega)
      by_cases hbl : i < b.length
      · have t1 : decide ((i : Int) < max (a.length : Int) (b.length : Int)) = true := by simp; omega
        have t1n : decide (i < max a.length b.length) = true := decide_eq_true (by omega)
        have t2 : decide ((a.length : Int) ≤ (i : Int)) = true := by simp; omega
        have t2n : decide (a.length ≤ i) = true := decide_eq_true (by omega)
        have t5 : decide ((i : Int) < (b.length : Int)) = true := by simp; omega
        have t5n : decide (i < b.length) = true := decide_eq_true (by omega)
        have HR3 : Hid (R = ((i : Int), false)) := by show _ = _; rw [hR.out, cmpV_short (.inl ⟨by omega, hbl⟩)]
        clear hR
        go_upto_region 3 with (fail)
        go_quiet (fail)
        go_wp2_with fail
        go_ret2
        exact ⟨ret_val (by rw [HR3.out]; rfl), below_tr' hb (drewN_below _ _)⟩
      · have t1 : decide ((i : Int) < max (a.length : Int) (b.length : Int)) = false := by simp; omega
        have t1n : decide (i < max a.length b.length) = false := decide_eq_false (by omega)
        have t5 : decide ((i : Int) < (b.length : Int)) = false := by simp; omega
        have t5n : decide (i < b.length) = false := decide_eq_false (by omega)
        have HR3 : Hid (R = (0, true)) := by show _ = _; rw [hR.out, cmpV_end (by omega) (by omega)]
        clear hR
        go_wp2_with fail
        go_ret2
        exact ⟨ret_val (by rw [HR3.out]; rfl), hb⟩
set_option maxRecDepth 100000 in
set_option maxHeartbeats 4000000 in
theorem rCompare_any (d d2 : Nat) (v v' : Value) (a b : List (List EvT)) (w : World) (hv : SlG (entK d) (fun _ => True) w v a) (hv' : SlG (entK d2) (fun _ => True) w v' b) : Calls Tryz.prog 7 #[v, v'] w (Gives (.tuple #[.int .i64 (cmpV 0 a b).1, .bool (cmpV 0 a b).2]) w) := by
  have HV := Lib.hid (fun w' (k : Below w.heap.size w w') => hv.below k)
  have HV' := Lib.hid (fun w' (k : Below w.heap.size w w') => hv'.below k)
  obtain ⟨pa, pc0, rfl, _, _⟩ := hv
  obtain ⟨pb, pc2, rfl, _, _⟩ := hv'
  have h0 : Hid (cmpV 0 a b = cmpV 0 (a.drop 0) (b.drop 0)) := by show _ = _; rw [List.drop_zero, List.drop_zero]
  obtain ⟨R, hR0⟩ : ∃ R, R = cmpV 0 a b := ⟨_, rfl⟩
  rw [← hR0] at h0 ⊢
  clear hR0
  go_enter Tryz.func7, Tryz.ntmps7
  go_wp2_with fail
  go_loopw [6] (fun iv wr => ∃ i : Nat, iv = .int .i64 (i : Int) ∧ i ≤ max a.length b.length ∧ Hid (R = cmpV i (a.drop i) (b.drop i)) ∧ Below w.heap.size w wr) (fun iv _ => max a.length b.length - (intOf iv).toNat)
  case atStart => exact ⟨0, rfl, Nat.zero_le _, h0, Below.refl _ _⟩
  case round =>
    clear h0
    obtain ⟨i, rfl, hi, hR, hb⟩ := hrel
    by_cases ha : i < a.length
    · by_cases hbl : i < b.length
      · have t1 : decide ((i : Int) < max (a.length : Int) (b.length : Int)) = true := by simp; omega
        have t1n : decide (i < max a.length b.length) = true := decide_eq_true (by omega)
        have t2 : decide ((a.length : Int) ≤ (i : Int)) = false := by simp; omega
        have t2n : decide (a.length ≤ i) = false := decide_eq_false (by omega)
        have t3 : decide ((b.length : Int) ≤ (i : Int)) = false := by simp; omega
        have t3n : decide (b.length ≤ i) = false := decide_eq_false (by omega)
        have t4 : decide ((i : Int) < (a.length : Int)) = true := by simp; omega
        have t4n : decide (i < a.length) = true := decide_eq_true (by omega)
        have i0 : (0 : Int) ≤ (i : Int) := by omega
        have i1 : (i : Int) < (a.length : Int) := by omega
        have i2 : (i : Int) < (b.length : Int) := by omega
        obtain ⟨x, hx⟩ : ∃ x, a[i]? = some x := ⟨_, List.getElem?_eq_getElem ha⟩
        obtain ⟨y, hy⟩ : ∃ x, b[i]? = some x := ⟨_, List.getElem?_eq_getElem hbl⟩
        obtain ⟨g, off, rfl, _, hg, ds, hds, hr⟩ := (HV.out wr hb).item hx
        obtain ⟨ux, rfl, hsx⟩ := hds
        obtain ⟨g2, off2, rfl, _, hg2, ds, hds, hr2⟩ := (HV'.out wr hb).item hy
        obtain ⟨uy, rfl, hsy⟩ := hds
        have hdb : Below wr.heap.size wr wr.drew := (Below.refl _ _).drew
        have HS := Lib.hid (r22Same_any d d2 _ _ x y wr.drew (hsx.below hdb) (hsy.below hdb))
        have hgl : g < wr.drew.heap.size := hg
        have hgl2 : g2 < wr.drew.heap.size := hg2
        have a0 : wr.drew.cell? ⟨g, off + i, none⟩ = some ux := by have := hr 0 _ rfl; simpa using this
        have c0 : wr.drew.cell? ⟨g2, off2 + i, none⟩ = some uy := by have := hr2 0 _ rfl; simpa using this
        have HR1 := Lib.hid (fun h => cmpV_step (a := a) (b := b) hx hy h)
        have HR2 := Lib.hid (fun h => cmpV_no (a := a) (b := b) hx hy h)
        obtain ⟨pux, cux, eux, _, _⟩ := hsx
        obtain ⟨puy, cuy, euy, _, _⟩ := hsy
        subst eux
        subst euy
        clear hx hy hr hr2 hg hg2
        go_upto_region 4 with (fail)
        go_region_held3 (fun z => z.cell? ⟨g, off + i, none⟩ = some (.slice pux x.length cux) ∧ z.cell? ⟨g2, off2 + i, none⟩ = some (.slice puy y.length cuy)) (first | with_reducible exact ⟨a0, c0⟩ | exact ⟨(hb5.cell (p := ⟨g, off + i, none⟩) hgl).trans a0, (hb5.cell (p := ⟨g2, off2 + i, none⟩) hgl2).trans c0⟩) ((go_at_call 16; (with_reducible refine (HS.out).mono ?_); rintro e w5 ⟨rfl, hb5⟩))
        have hbz := hb.trans ((undrew hb5).mono hb.size)
        cases hp : sameEs x y with
        | true =>
          have HR3 : Hid (R = cmpV (i + 1) (a.drop (i + 1)) (b.drop (i + 1))) := by show _ = _; rw [hR.out, HR1.out hp]
          clear hR HR1 HR2 HS hp hb5 a0 c0
          go_wp2_with fail
          go_roundw
          case rel => exact ⟨i + 1, by go_num, by omega, HR3, hbz⟩
          case measure => simp [intOf]; omega
        | false =>
          have HR3 : Hid (R = ((i : Int), false)) := by show _ = _; rw [hR.out, HR2.out hp]
          clear hR HR1 HR2 HS hp hb5 a0 c0
          go_wp2_with fail
          go_ret2
          exact ⟨ret_val (by rw [HR3.out]; rfl), hbz⟩
      · have t1 : decide ((i : Int) < max (a.length : Int) (b.length : Int)) = true := by simp; omega
        have t1n : decide (i < max a.length b.length) = true := decide_eq_true (by omega)
        have t2 : decide ((a.length : Int) ≤ (i : Int)) = false := by simp; omega
        have t2n : decide (a.length ≤ i) = false := decide_eq_false (by omega)
        have t3 : decide ((b.length : Int) ≤ (i : Int)) = true := by simp; omega
        have t3n : decide (b.length ≤ i) = true := decide_eq_true (by omega)
        have t4 : decide ((i : Int) < (a.length : Int)) = true := by simp; omega
        have t4n : decide (i < a.length) = true := decide_eq_true (by omega)
        have HR3 : Hid (R = ((i : Int), false)) := by show _ = _; rw [hR.out, cmpV_short (.inr ⟨ha, by omega⟩)]
        clear hR
        go_upto_region 4 with (fail)
        go_quiet (fail)
        go_wp2_with fail
        go_ret2
        exact ⟨ret_val (by rw [HR3.out]; rfl), below_tr' hb (drewN_below _ _)⟩
    · have t4 : decide ((i : Int) < (a.length : Int)) = false := by simp; omega
      have t4n : decide (i < a.length) = false := decide_eq_false (by omega)
      by_cases hbl : i < b.length
      · have t1 : decide ((i : Int) < max (a.length : Int) (b.length : Int)) = true := by simp; omega
        have t1n : decide (i < max a.length b.length) = true := decide_eq_true (by omega)
        have t2 : decide ((a.length : Int) ≤ (i : Int)) = true := by simp; omega
        have t2n : decide (a.length ≤ i) = true := decide_eq_true (by omega)
        have t5 : decide ((i : Int) < (b.length : Int)) = true := by simp; omega
        have t5n : decide (i < b.length) = true := decide_eq_true (by omega)
        have HR3 : Hid (R = ((i : Int), false)) := by show _ = _; rw [hR.out, cmpV_short (.inl ⟨by omega, hbl⟩)]
        clear hR
        go_upto_region 4 with (fail)
        go_quiet (fail)
        go_wp2_with fail
        go_ret2
        exact ⟨ret_val (by rw [HR3.out]; rfl), below_tr' hb (drewN_below _ _)⟩
      · have t1 : decide ((i : Int) < max (a.length : Int) (b.length : Int)) = false := by simp; omega
        have t1n : decide (i < max a.length b.length) = false := decide_eq_false (by omega)
        have t5 : decide ((i : Int) < (b.length : Int)) = false := by simp; omega
        have t5n : decide (i < b.length) = false := decide_eq_false (by omega)
        have HR3 : Hid (R = (0, true)) := by show _ = _; rw [hR.out, cmpV_end (by omega) (by omega)]
        clear hR
        go_wp2_with fail
        go_ret2
        exact ⟨ret_val (by rw [HR3.out]; rfl), hb⟩
end Go.Proofs.YthponidjednfbaaGreatDoor
