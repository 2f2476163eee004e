/-
  Ld1 in one text.
-/
import Derived.Below
import Derived.BigFrame
import Derived.BigQuiet
import Derived.ChangeArms
import Derived.DataReads
import Derived.Deep.AppendLies
import Derived.Deep.AppendSrc
import Derived.Deep.Cut
import Derived.Deep.DeepCutAuto
import Derived.Deep.MidRow
import Derived.Deep.QuietTactic
import Derived.Deep.RegionHeld3
import Derived.Deep.RegionWith
import Derived.Defers
import Derived.Handy
import Derived.IntWalk
import Derived.Laws.Bits64b
import Derived.Laws.FloatBits
import Derived.Laws.Rows
import Derived.Lib.AtoiAll
import Derived.Lib.Builder
import Derived.Lib.Bytealg
import Derived.Lib.Bytes
import Derived.Lib.ConvBytes
import Derived.Lib.FrozenHead2
import Derived.Lib.Hide
import Derived.Lib.IndexMore
import Derived.Lib.ItoaNum
import Derived.Lib.MinMax
import Derived.Lib.OthersKept
import Derived.Lib.ParseIntB
import Derived.Lib.UnsafeStr
import Derived.LoopTactic
import Derived.OneCell
import Derived.OwnWalk
import Derived.Recover
import Derived.RegionTactic
import Derived.Shelf.Abstract
import Derived.SizedLaws
import Derived.StillTailTactics
import Derived.Tactics
import Derived.Tactics2
import Derived.Test.YtkbcdlabfbonoaaGreatDoorChecked
import Derived.Test.YtkbcdlabfbonoaaGreatDoorEv3
import Derived.Test.YtkbcdlabfbonoaaGreatDoorShelf
import Derived.WalkKit
import Derived.WalkLawsBesides
import Derived.WalkSpells
import Derived.WideShapes
import Ieee.Arith
import Derived.Test.YtkbcdlabfbonoaaGreatDoorS00
import Derived.Test.YtkbcdlabfbonoaaGreatDoorS01
import Derived.Test.YtkbcdlabfbonoaaGreatDoorS02
import Derived.Test.YtkbcdlabfbonoaaGreatDoorS03
import Derived.Test.YtkbcdlabfbonoaaGreatDoorS05
import Derived.Test.YtkbcdlabfbonoaaGreatDoorS06
import Derived.Test.YtkbcdlabfbonoaaGreatDoorS07
import Derived.Test.YtkbcdlabfbonoaaGreatDoorS08
import Derived.Test.YtkbcdlabfbonoaaGreatDoorS10
namespace Go.Proofs.YtkbcdlabfbonoaaGreatDoor
open Go.RowKit
/-- a release -/
structure AudT where
  a : Int
  b : Int
  c : Int
  d : Int
  lv : Int
  v : VT
/-- its cells -/
def AudIn (S : Nat → Prop) (w : World) (d : Nat) (x : AudT) (ds : Array Value) : Prop := ∃ pp pc p cap, ds = #[.int .i64 x.a, .int .i64 x.b, .int .i64 x.c, .int .i64 x.d, .int .i64 x.lv, .int .i64 x.v.kind, .int .i64 x.v.num, .float .f64 x.v.flt, .string ⟨x.v.str.toArray⟩, .slice pp x.v.names.length pc, .slice p x.v.items.length cap] ∧ ValIn S w d x.v #[.int .i64 x.v.kind, .int .i64 x.v.num, .float .f64 x.v.flt, .string ⟨x.v.str.toArray⟩, .slice pp x.v.names.length pc, .slice p x.v.items.length cap]
def audK (d : Nat) : ItemK AudT 11 where
  at_ S w x ds := AudIn S w d x ds
  size h := by obtain ⟨_, _, _, _, rfl, _⟩ := h; rfl
  kept hs hk h := by
    obtain ⟨pp, pc, p, cap, h1, h2⟩ := h
    exact ⟨pp, pc, p, cap, h1, h2.kept hs hk⟩
theorem filt_snoc {α β : Type} {p : α → Bool} {f : α → β} {l : List α} {i : Nat} {x : α} (hx : l[i]? = some x) : ((l.take (i + 1)).filter p).map f = ((l.take i).filter p).map f ++ if p x = true then [f x] else [] := by
  rw [List.take_add_one, hx, List.filter_append, List.map_append]
  cases h : p x <;> simp [h]
set_option maxRecDepth 100000 in
set_option maxHeartbeats 4000000 in
theorem aSequence_any (d : Nat) (pv v : Value) (f : Int → Int → Bool) (l : List AudT) (level : Int) (w : World) (hw0 : 0 < w.heap.size) (hv : SlG (audK d) (fun _ => True) w v l) (hl : l.length ≤ 1000) (hfit : ∀ x ∈ l, fitV x.v)
    (hleq : ∀ (x y : Int) (w' : World), Below w.heap.size w w' → Calls Tryz.prog 11 #[pv, .int .i64 x, .int .i64 y] w' fun e w'' => e = .returned (.bool (f x y)) ∧ w' = w'') :
    Calls Tryz.prog 8 #[pv, v, .int .i64 level] w fun e w' => ∃ v', e = .returned v' ∧ SlG (valK d) (fun g => w.heap.size ≤ g) w' v' ((l.filter fun a => f a.lv level).map fun a => canV a.v) ∧ Below w.heap.size w w' := by
  have HV := Lib.hid (fun w' (k : Below w.heap.size w w') => hv.below k)
  obtain ⟨pa, pc0, rfl, _, _⟩ := hv
  have HL := Lib.hid hleq; clear hleq
  have HC := Lib.hid (fun x ds w h1 h2 => vCanon_any d x ds w h1 h2)
  have HF := Lib.hid hfit; clear hfit
  obtain ⟨P, hP⟩ : ∃ P, P + 1 = w.heap.size := ⟨w.heap.size - 1, by omega⟩
  have HP := Lib.hid hP; clear hP hw0
  go_enter Tryz.func8, Tryz.ntmps8
  go_wp2_with fail
  go_loopw [6, 11] (fun rv iv wr => ∃ i : Nat, iv = .int .i64 (i : Int) ∧ i ≤ l.length ∧ Hid (RowG (valK d) (fun g => P < g) P 44 (((l.take i).filter fun a => f a.lv level).map fun a => canV a.v) rv wr ∧ Below w.heap.size w wr)) (fun _ iv _ => l.length - (intOf iv).toNat)
  case atStart => exact ⟨0, rfl, Nat.zero_le _, Lib.hid ⟨by rw [List.take_zero]; exact RowG.nil _ _ _ _ _, Below.refl _ _⟩⟩
  case round =>
    obtain ⟨i, rfl, hi, hq⟩ := hrel
    by_cases hil : i < l.length
    · have t0 : decide ((i : Int) < (l.length : Int)) = true := by simp; omega
      have i0 : (0 : Int) ≤ (i : Int) := by omega
      obtain ⟨x, hx⟩ : ∃ x, l[i]? = some x := ⟨_, List.getElem?_eq_getElem hil⟩
      have hown : ∀ k, u6.ownBlock = some k → k < wr.heap.size := fun k hk => by obtain ⟨xs, h1, _⟩ := hq.out.1; exact (own_ltG h1 hk).2
      obtain ⟨g, off, rfl, _, hg, ds, hds, hr⟩ := (HV.out wr hq.out.2).item hx
      obtain ⟨pp, pc, p, cap, rfl, hvx⟩ := hds
      have hfx := HF.out x (List.mem_of_getElem? hx)
      have htk := filt_snoc (p := fun a => f a.lv level) (f := fun a => canV a.v) hx
      have hlt : (((l.take i).filter fun a => f a.lv level).map fun a => canV a.v).length ≤ 1000000 := by
        rw [List.length_map]
        have := List.length_filter_le (fun a : AudT => f a.lv level) (l.take i)
        rw [List.length_take] at this; omega
      generalize hR : ((l.take i).filter fun a => f a.lv level).map (fun a => canV a.v) = R at *
      clear hR
      go_upto_region 4 with (first | (refine wpList_loadR rfl rfl rfl (by kernel_rfl) (n := 11) (by kernel_rfl) hr rfl ?_) | (refine wpList_rown rfl rfl rfl rfl rfl (n := 11) (by kernel_rfl) (heap_alloc_new _ _) rfl rfl (List.all_eq_true.1 (by kernel_rfl)) ?_; intro wx hgx FFx))
      have hAx : Below wr.heap.size wr wx := (((Fr.refl [wr.heap.size] wr).alloc _).trans FFx).below (Nat.le_refl _) (by simp)
      have hrow := hq.out.1.below hAx
      have hbw := hq.out.2.trans (hAx.mono hq.out.2.size)
      have HLx := Lib.hid (HL.out x.lv level wx hbw)
      have hvx := (hvx.at).kept hAx
      have hxs := hAx.size
      have hws := hq.out.2.size
      clear hr hq FFx hAx
      go_wp2_with (refine wpList_load1 rfl rfl rfl (by kernel_rfl) hgx rfl ?_)
      refine (HLx.out).mono ?_; rintro e w4 ⟨rfl, rfl⟩
      cases hp : f x.lv level with
      | false =>
        rw [hp, if_neg (by simp), List.append_nil] at htk
        have HQ := Lib.hid (show RowG (valK d) (fun g => P < g) P 44 (((l.take (i + 1)).filter fun a => f a.lv level).map fun a => canV a.v) u6 wx ∧ Below w.heap.size w wx from ⟨by rw [htk]; exact hrow, hbw⟩)
        clear hrow hbw hvx
        go_wp2_with fail
        go_roundw
        case rel => exact ⟨i + 1, by go_num, by omega, HQ⟩
        case measure => simp [intOf]; omega
      | true =>
        rw [hp, if_pos rfl] at htk
        have HCx := Lib.hid (HC.out x.v _ wx hvx hfx)
        have hr6 : wx.rangeAt wr.heap.size 5 [.int .i64 x.v.kind, .int .i64 x.v.num, .float .f64 x.v.flt, .string ⟨x.v.str.toArray⟩, .slice pp x.v.names.length pc, .slice p x.v.items.length cap] := range_row hgx rfl
        go_wp2_with (refine wpList_loadR rfl rfl rfl (by kernel_rfl) (n := 6) (by kernel_rfl) hr6 rfl ?_)
        refine (HCx.out).mono ?_; rintro e w5 ⟨cs5, rfl, hv5, hb5⟩
        replace hrow := hrow.below hb5
        replace hbw := hbw.trans (hb5.mono hbw.size)
        have hs5 := hbw.size
        have hb5s := hb5.size
        obtain ⟨f0, f1, f2, f3, f4, f5, f6, f7, f8, f9, rfl⟩ := hv5.form6
        have hA6 : Below w5.heap.size w5 (w5.alloc (.cells #[.int .i64 f0, .int .i64 f1, .float .f64 f2, .string f3, .slice f4 f5 f6, .slice f7 f8 f9] 44)) := (Below.refl _ _).alloc (Nat.le_refl _) _
        have hg6 := heap_alloc_new w5 (.cells #[.int .i64 f0, .int .i64 f1, .float .f64 f2, .string f3, .slice f4 f5 f6, .slice f7 f8 f9] 44)
        have hrow6 := hrow.below hA6
        have hbw6 := hbw.trans (hA6.mono hbw.size)
        have hs6 := hA6.size
        have hoff : ∀ g, wx.heap.size ≤ g → OffG (fun g => P < g) u6 g := fun g h1 => ⟨by have := HP.out; omega, fun e => by have := hown g e; omega⟩
        have hv6 := hv5.kept (T := OffG (fun g => P < g) u6) (w' := w5.alloc (.cells #[.int .i64 f0, .int .i64 f1, .float .f64 f2, .string f3, .slice f4 f5 f6, .slice f7 f8 f9] 44)) hA6.size (fun g h1 h2 => ⟨hoff g h1, hA6.block g h2⟩)
        obtain ⟨ii, hi0, hz0, hz1, hz2⟩ := Go.info_parts zero_VTb
        have HII := Lib.hid hi0; have HZ0 := Lib.hid hz0; have HZ1 := Lib.hid hz1; have HZ2' := Lib.hid hz2
        clear hi0 hz0 hz1 hz2 hv5 hoff hrow hA6 hbw hr6 hgx
        go_wp2_with (at_builtin; refine wpList_append_item (I := valK d) rfl _ _ 36 (by rfl) P 44 ii _ 88 Tryz.underlying36 HII.out HZ0.out HZ1.out HZ2'.out rfl (by omega) (by omega) u6 R rfl hrow6 w5.heap.size _ (canV x.v) _ _ _ rfl hg6 (List.all_eq_true.1 (by kernel_rfl)) hv6 hlt (by have := HP.out; omega) ?_; intro g7 c7 w7 hrow7 hgr7 hat7 hlt7)
        have HQ := Lib.hid (show RowG (valK d) (fun g => P < g) P 44 (((l.take (i + 1)).filter fun a => f a.lv level).map fun a => canV a.v) (.slice (some ⟨g7, 0, none⟩) (R.length + 1) c7) w7 ∧ Below w.heap.size w w7 from ⟨by rw [htk]; exact hrow7, below_grow hbw6 (Nat.le_refl _) hgr7 (fun k hk => by
          obtain ⟨xs, h1, _⟩ := hrow6
          have := (own_ltG h1 hk).1
          have := HP.out
          omega)⟩)
        go_roundw
        case rel => exact ⟨i + 1, by go_num, by omega, HQ⟩
        case measure => simp [intOf]; omega
    · have t0 : decide ((i : Int) < (l.length : Int)) = false := by simp; omega
      obtain rfl : i = l.length := by omega
      have hq2 := hq.out
      rw [List.take_length] at hq2
      obtain ⟨hrow, hbw⟩ := hq2
      have hdone := hrow.done (by
        rw [List.length_map]
        have := List.length_filter_le (fun a : AudT => f a.lv level) l
        omega) (fun g h => h)
      have HD := Lib.hid (hdone.kept (T := fun g => w.heap.size ≤ g) (Nat.le_refl _) (fun g (h1 : P < g) h2 => ⟨by have := HP.out; omega, rfl⟩))
      clear hq hrow hdone
      go_wp2_with fail
      go_ret
      exact ⟨_, rfl, HD.out, hbw⟩
end Go.Proofs.YtkbcdlabfbonoaaGreatDoor
