/-
  Tw3 in one text.
-/
import Derived.Below
import Derived.BigFrame
import Derived.BigQuiet
import Derived.ChangeArms
import Derived.DataReads
import Derived.Deep.AppendLies
import Derived.Deep.AppendSrc
import Derived.Deep.Cut
import Derived.Deep.DeepCutAuto
import Derived.Deep.MidRow
import Derived.Deep.QuietTactic
import Derived.Deep.RegionHeld3
import Derived.Deep.RegionWith
import Derived.Defers
import Derived.Handy
import Derived.IntWalk
import Derived.Laws.Bits64b
import Derived.Laws.FloatBits
import Derived.Lib.AtoiAll
import Derived.Lib.Builder
import Derived.Lib.Bytealg
import Derived.Lib.Bytes
import Derived.Lib.ConvBytes
import Derived.Lib.FrozenHead2
import Derived.Lib.Hide
import Derived.Lib.IndexMore
import Derived.Lib.ItoaNum
import Derived.Lib.MinMax
import Derived.Lib.OthersKept
import Derived.Lib.ParseIntB
import Derived.Lib.UnsafeStr
import Derived.LoopTactic
import Derived.OneCell
import Derived.OwnWalk
import Derived.Recover
import Derived.RegionTactic
import Derived.Shelf.Abstract
import Derived.SizedLaws
import Derived.StillTailTactics
import Derived.Tactics
import Derived.Tactics2
import Derived.Test.YthponidjednfbaaGreatDoorChecked
import Derived.Test.YthponidjednfbaaGreatDoorEv3
import Derived.WalkKit
import Derived.WalkLawsBesides
import Derived.WalkSpells
import Derived.WideShapes
import Ieee.Arith
import Derived.Test.YthponidjednfbaaGreatDoorS00
import Derived.Test.YthponidjednfbaaGreatDoorS01
import Derived.Test.YthponidjednfbaaGreatDoorS02
import Derived.Test.YthponidjednfbaaGreatDoorS03
import Derived.Test.YthponidjednfbaaGreatDoorS06
namespace Go.Proofs.YthponidjednfbaaGreatDoor
open Go.RowKit
theorem all_drop {α : Type} {p : α → Bool} {l : List α} {i : Nat} {x : α} (hx : l[i]? = some x) : (l.drop i).all p = (p x && (l.drop (i + 1)).all p) := by
  obtain ⟨h, e⟩ := List.getElem?_eq_some_iff.1 hx
  rw [List.drop_eq_getElem_cons h, e, List.all_cons]
def few1 (l : List EvT) : Bool := decide (l.length ≤ 50) && l.all fun e => smallB e.v
def few28 (a : List (List EvT)) : Bool := (a.all few1) && decide (a.length ≤ 100)
set_option maxRecDepth 100000 in
set_option maxHeartbeats 4000000 in
theorem few28_any (d : Nat) (v : Value) (l : List (List EvT)) (w : World) (hv : SlG (entK d) (fun _ => True) w v l) : Calls Tryz.prog 5 #[v] w (Gives (.bool (few28 l)) w) := by
  have HV := Lib.hid (fun w' (k : Below w.heap.size w w') => hv.below k)
  obtain ⟨pa, pc0, rfl, hlen, _⟩ := hv
  have HS := Lib.hid (fun d v cs w h => rsmall_any d v cs w h)
  have h0 : Hid (few28 l = ((l.drop 0).all few1 && decide (l.length ≤ 100))) := by show _ = _; rw [List.drop_zero]; rfl
  generalize few28 l = R at *
  go_enter Tryz.func5, Tryz.ntmps5
  go_wp2_with fail
  go_loopw [9] (fun iv wr => ∃ i : Nat, iv = .int .i64 (i : Int) ∧ i ≤ l.length ∧ Hid (R = ((l.drop i).all few1 && decide (l.length ≤ 100))) ∧ Below w.heap.size w wr) (fun iv _ => l.length - (intOf iv).toNat)
  case atStart => exact ⟨0, rfl, Nat.zero_le _, h0, Below.refl _ _⟩
  case round =>
    clear h0
    obtain ⟨i, rfl, hi, hR, hb⟩ := hrel
    by_cases hil : i < l.length
    · have t0 : decide ((i : Int) < (l.length : Int)) = true := by simp; omega
      have i0 : (0 : Int) ≤ (i : Int) := by omega
      obtain ⟨e, hx⟩ : ∃ x, l[i]? = some x := ⟨_, List.getElem?_eq_getElem hil⟩
      obtain ⟨g, off, rfl, _, hg, ds, hds, hr⟩ := (HV.out wr hb).item hx
      obtain ⟨wo, rfl⟩ : ∃ x, x = wr := ⟨_, rfl⟩
      obtain ⟨v, rfl, hsl⟩ := hds
      have HE := Lib.hid (fun w' (k : Below wo.heap.size wo w') => hsl.below k)
      obtain ⟨pe, pc1, rfl, hle, _⟩ := hsl
      have hc : wo.cell? ⟨g, off + i, none⟩ = some (.slice pe e.length pc1) := by simpa using hr 0 _ rfl
      have hR1 : Hid (R = (few1 e && ((l.drop (i + 1)).all few1 && decide (l.length ≤ 100)))) := by show _ = _; rw [hR.out, all_drop hx, Bool.and_assoc]
      clear hR hx hr
      by_cases he : 50 < e.length
      · have t1 : decide ((50 : Int) < (e.length : Int)) = true := by simp; omega
        have HR2 : Hid (R = false) := by
          show _ = _
          rw [hR1.out, few1, decide_eq_false (by omega)]
          rfl
        clear hR1
        go_wp2_with fail
        go_ret
        exact ⟨ret_val (by rw [HR2.out]; rfl), hb⟩
      have t1 : decide ((50 : Int) < (e.length : Int)) = false := by simp; omega
      have h1 : Hid (few1 e = (e.drop 0).all (fun e => smallB e.v)) := by
        show _ = _
        rw [List.drop_zero, few1, decide_eq_true (by omega), Bool.true_and]
      go_upto_region 6 with (fail)
      go_wp2_with fail
      go_loopw [18] (fun kv wr => ∃ k : Nat, kv = .int .i64 (k : Int) ∧ k ≤ e.length ∧ Hid (few1 e = (e.drop k).all (fun e => smallB e.v)) ∧ Below wo.heap.size wo wr) (fun kv _ => e.length - (intOf kv).toNat)
      case atStart => exact ⟨0, rfl, Nat.zero_le _, h1, Below.refl _ _⟩
      case round =>
        clear h1 hc
        obtain ⟨k, rfl, hk, hK, hbk⟩ := hrel
        by_cases hkl : k < e.length
        · have t2 : decide ((k : Int) < (e.length : Int)) = true := by simp; omega
          have k0 : (0 : Int) ≤ (k : Int) := by omega
          obtain ⟨x, hx⟩ : ∃ x, e[k]? = some x := ⟨_, List.getElem?_eq_getElem hkl⟩
          obtain ⟨g2, off2, rfl, _, hg2, ds, hds, hr⟩ := (HE.out wr hbk).item hx
          obtain ⟨pp, pc, p, cap, rfl, hvx⟩ := hds
          have hK1 : Hid (few1 e = (smallB x.v && (e.drop (k + 1)).all (fun e => smallB e.v))) := by show _ = _; rw [hK.out, all_drop hx]
          clear hK hx
          go_upto_region 9 with (first | (refine wpList_loadR rfl rfl rfl (by kernel_rfl) (n := 13) (by kernel_rfl) hr rfl ?_) | (refine wpList_rown rfl rfl rfl rfl rfl (n := 13) (by kernel_rfl) (heap_alloc_new _ _) rfl rfl (List.all_eq_true.1 (by kernel_rfl)) ?_; intro wx hgx FFx))
          have hAx : Below wr.heap.size wr wx := (((Fr.refl [wr.heap.size] wr).alloc _).trans FFx).below (Nat.le_refl _) (by simp)
          have HSx := Lib.hid (HS.out d x.v _ wx ((hvx.at).kept hAx))
          have hbw := hbk.trans (hAx.mono hbk.size)
          have hr6 : wx.rangeAt wr.heap.size 6 [.int .i64 x.v.kind, .int .i64 x.v.num, .float .f64 x.v.flt, .string ⟨x.v.str.toArray⟩, .slice pp x.v.names.length pc, .slice p x.v.items.length cap] := range_row hgx rfl
          clear hr hbk FFx hAx hgx
          cases hp : smallB x.v with
          | true =>
            rw [hp] at HSx
            have HK2 : Hid (few1 e = (e.drop (k + 1)).all (fun e => smallB e.v)) := by show _ = _; rw [hK1.out, hp, Bool.true_and]
            clear hK1 hp
            go_wp2_with (refine wpList_loadR rfl rfl rfl (by kernel_rfl) (n := 6) (by kernel_rfl) hr6 rfl ?_)
            refine (HSx.out).mono ?_; rintro e w4 ⟨rfl, hb4⟩
            have hbx := hbw.trans (hb4.mono hbw.size)
            go_wp2_with fail
            go_roundw
            case rel => exact ⟨k + 1, by go_num, by omega, HK2, hbx⟩
            case measure => simp [intOf]; omega
          | false =>
            rw [hp] at HSx
            have HR2 : Hid (R = false) := by show _ = _; rw [hR1.out, hK1.out, hp, Bool.false_and, Bool.false_and]
            clear hK1 hp hR1
            go_wp2_with (refine wpList_loadR rfl rfl rfl (by kernel_rfl) (n := 6) (by kernel_rfl) hr6 rfl ?_)
            refine (HSx.out).mono ?_; rintro e w4 ⟨rfl, hb4⟩
            have hbx := hb.trans ((hbw.trans (hb4.mono hbw.size)).mono hb.size)
            go_wp2_with fail
            go_ret
            exact ⟨ret_val (by rw [HR2.out]; rfl), hbx⟩
        · have t2 : decide ((k : Int) < (e.length : Int)) = false := by simp; omega
          have HR2 : Hid (R = ((l.drop (i + 1)).all few1 && decide (l.length ≤ 100))) := by
            show _ = _
            rw [hR1.out, hK.out, List.drop_eq_nil_of_le (by omega), List.all_nil, Bool.true_and]
          have hbx := hb.trans (hbk.mono hb.size)
          clear hR1 hK
          go_wp2_with fail
          go_roundw
          case rel => exact ⟨i + 1, by go_num, by omega, HR2, hbx⟩
          case measure => simp [intOf]; omega
    · have t0 : decide ((i : Int) < (l.length : Int)) = false := by simp; omega
      have HR2 : Hid (R = decide ((l.length : Int) ≤ 100)) := by
        show _ = _
        rw [hR.out, List.drop_eq_nil_of_le (by omega), List.all_nil, Bool.true_and]
        exact decide_eq_decide.2 (by omega)
      clear hR
      go_wp2_with fail
      go_ret
      exact ⟨ret_val (by rw [HR2.out]; rfl), hb⟩
end Go.Proofs.YthponidjednfbaaGreatDoor
