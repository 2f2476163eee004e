/-
  Le1 in one text.
-/
import Derived.Below
import Derived.BigFrame
import Derived.BigQuiet
import Derived.ChangeArms
import Derived.DataReads
import Derived.Deep.AppendLies
import Derived.Deep.AppendSrc
import Derived.Deep.Cut
import Derived.Deep.DeepCutAuto
import Derived.Deep.MidRow
import Derived.Deep.QuietTactic
import Derived.Deep.RegionHeld3
import Derived.Deep.RegionWith
import Derived.Defers
import Derived.Handy
import Derived.IntWalk
import Derived.Laws.Bits64b
import Derived.Laws.FloatBits
import Derived.Laws.Rows
import Derived.Lib.AtoiAll
import Derived.Lib.Builder
import Derived.Lib.Bytealg
import Derived.Lib.Bytes
import Derived.Lib.ConvBytes
import Derived.Lib.FrozenHead2
import Derived.Lib.Hide
import Derived.Lib.IndexMore
import Derived.Lib.ItoaNum
import Derived.Lib.MinMax
import Derived.Lib.OthersKept
import Derived.Lib.ParseIntB
import Derived.Lib.UnsafeStr
import Derived.LoopTactic
import Derived.OneCell
import Derived.OwnWalk
import Derived.Recover
import Derived.RegionTactic
import Derived.Shelf.Abstract
import Derived.SizedLaws
import Derived.StillTailTactics
import Derived.Tactics
import Derived.Tactics2
import Derived.Test.YtkbcdlabfbonoaaGreatDoorChecked
import Derived.Test.YtkbcdlabfbonoaaGreatDoorEv3
import Derived.Test.YtkbcdlabfbonoaaGreatDoorShelf
import Derived.WalkKit
import Derived.WalkLawsBesides
import Derived.WalkSpells
import Derived.WideShapes
import Ieee.Arith
import Derived.Test.YtkbcdlabfbonoaaGreatDoorS00
import Derived.Test.YtkbcdlabfbonoaaGreatDoorS01
import Derived.Test.YtkbcdlabfbonoaaGreatDoorS02
import Derived.Test.YtkbcdlabfbonoaaGreatDoorS03
import Derived.Test.YtkbcdlabfbonoaaGreatDoorS05
import Derived.Test.YtkbcdlabfbonoaaGreatDoorS06
import Derived.Test.YtkbcdlabfbonoaaGreatDoorS11
namespace Go.Proofs.YtkbcdlabfbonoaaGreatDoor
open Go.RowKit
/-- what few answers -/
def fewB (l : List AudT) : Bool := (l.all fun x => smallB x.v) && decide (l.length ≤ 200)
theorem all_drop {α : Type} {p : α → Bool} {l : List α} {i : Nat} {x : α} (hx : l[i]? = some x) : (l.drop i).all p = (p x && (l.drop (i + 1)).all p) := by
  obtain ⟨h, e⟩ := List.getElem?_eq_some_iff.1 hx
  rw [List.drop_eq_getElem_cons h, e, List.all_cons]
set_option maxRecDepth 100000 in
set_option maxHeartbeats 4000000 in
theorem few_any (d : Nat) (v : Value) (l : List AudT) (w : World) (hv : SlG (audK d) (fun _ => True) w v l) : Calls Tryz.prog 5 #[v] w (Gives (.bool (fewB l)) w) := by
  have HV := Lib.hid (fun w' (k : Below w.heap.size w w') => hv.below k)
  obtain ⟨pa, pc0, rfl, hlen, _⟩ := hv
  have HS := Lib.hid (fun d v cs w h => rsmall_any d v cs w h)
  have h0 : Hid (fewB l = ((l.drop 0).all (fun x => smallB x.v) && decide (l.length ≤ 200))) := by show _ = _; rw [List.drop_zero]; rfl
  generalize fewB l = R at *
  go_enter Tryz.func5, Tryz.ntmps5
  go_wp2_with fail
  go_loopw [7] (fun iv wr => ∃ i : Nat, iv = .int .i64 (i : Int) ∧ i ≤ l.length ∧ Hid (R = ((l.drop i).all (fun x => smallB x.v) && decide (l.length ≤ 200))) ∧ Below w.heap.size w wr) (fun iv _ => l.length - (intOf iv).toNat)
  case atStart => exact ⟨0, rfl, Nat.zero_le _, h0, Below.refl _ _⟩
  case round =>
    clear h0
    obtain ⟨i, rfl, hi, hR, hb⟩ := hrel
    by_cases hil : i < l.length
    · have t0 : decide ((i : Int) < (l.length : Int)) = true := by simp; omega
      have i0 : (0 : Int) ≤ (i : Int) := by omega
      obtain ⟨x, hx⟩ : ∃ x, l[i]? = some x := ⟨_, List.getElem?_eq_getElem hil⟩
      obtain ⟨g, off, rfl, _, hg, ds, hds, hr⟩ := (HV.out wr hb).item hx
      obtain ⟨pp, pc, p, cap, rfl, hvx⟩ := hds
      have hR1 : Hid (R = (smallB x.v && ((l.drop (i + 1)).all (fun x => smallB x.v) && decide (l.length ≤ 200)))) := by show _ = _; rw [hR.out, all_drop hx, Bool.and_assoc]
      clear hR hx
      go_upto_region 4 with (first | (refine wpList_loadR rfl rfl rfl (by kernel_rfl) (n := 11) (by kernel_rfl) hr rfl ?_) | (refine wpList_rown rfl rfl rfl rfl rfl (n := 11) (by kernel_rfl) (heap_alloc_new _ _) rfl rfl (List.all_eq_true.1 (by kernel_rfl)) ?_; intro wx hgx FFx))
      have hAx : Below wr.heap.size wr wx := (((Fr.refl [wr.heap.size] wr).alloc _).trans FFx).below (Nat.le_refl _) (by simp)
      have HSx := Lib.hid (HS.out d x.v _ wx ((hvx.at).kept hAx))
      have hbw := hb.trans (hAx.mono hb.size)
      have hr6 : wx.rangeAt wr.heap.size 5 [.int .i64 x.v.kind, .int .i64 x.v.num, .float .f64 x.v.flt, .string ⟨x.v.str.toArray⟩, .slice pp x.v.names.length pc, .slice p x.v.items.length cap] := range_row hgx rfl
      clear hr hb FFx hAx hgx
      cases hp : smallB x.v with
      | true =>
        rw [hp] at HSx
        have HR2 : Hid (R = ((l.drop (i + 1)).all (fun x => smallB x.v) && decide (l.length ≤ 200))) := by show _ = _; rw [hR1.out, hp, Bool.true_and]
        clear hR1 hp
        go_wp2_with (refine wpList_loadR rfl rfl rfl (by kernel_rfl) (n := 6) (by kernel_rfl) hr6 rfl ?_)
        refine (HSx.out).mono ?_; rintro e w4 ⟨rfl, hb4⟩
        have hbx := hbw.trans (hb4.mono hbw.size)
        go_wp2_with fail
        go_roundw
        case rel => exact ⟨i + 1, by go_num, by omega, HR2, hbx⟩
        case measure => simp [intOf]; omega
      | false =>
        rw [hp] at HSx
        have HR2 : Hid (R = false) := by show _ = _; rw [hR1.out, hp, Bool.false_and]
        clear hR1 hp
        go_wp2_with (refine wpList_loadR rfl rfl rfl (by kernel_rfl) (n := 6) (by kernel_rfl) hr6 rfl ?_)
        refine (HSx.out).mono ?_; rintro e w4 ⟨rfl, hb4⟩
        have hbx := hbw.trans (hb4.mono hbw.size)
        go_wp2_with fail
        go_ret
        exact ⟨ret_val (by rw [HR2.out]; rfl), hbx⟩
    · have t0 : decide ((i : Int) < (l.length : Int)) = false := by simp; omega
      have HR2 : Hid (R = decide ((l.length : Int) ≤ 200)) := by
        show _ = _
        rw [hR.out, List.drop_eq_nil_of_le (by omega), List.all_nil, Bool.true_and]
        exact decide_eq_decide.2 (by omega)
      clear hR
      go_wp2_with fail
      go_ret
      exact ⟨ret_val (by rw [HR2.out]; rfl), hb⟩
end Go.Proofs.YtkbcdlabfbonoaaGreatDoor
