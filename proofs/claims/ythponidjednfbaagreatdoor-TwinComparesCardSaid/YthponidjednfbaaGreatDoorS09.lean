/-
  Tw4 in one text.
-/
import Derived.Below
import Derived.BigFrame
import Derived.BigQuiet
import Derived.ChangeArms
import Derived.DataReads
import Derived.Deep.AppendLies
import Derived.Deep.AppendSrc
import Derived.Deep.Cut
import Derived.Deep.DeepCutAuto
import Derived.Deep.MidRow
import Derived.Deep.QuietTactic
import Derived.Deep.RegionHeld3
import Derived.Deep.RegionWith
import Derived.Defers
import Derived.Handy
import Derived.IntWalk
import Derived.Laws.Bits64b
import Derived.Laws.FloatBits
import Derived.Lib.AtoiAll
import Derived.Lib.Builder
import Derived.Lib.Bytealg
import Derived.Lib.Bytes
import Derived.Lib.ConvBytes
import Derived.Lib.FrozenHead2
import Derived.Lib.Hide
import Derived.Lib.IndexMore
import Derived.Lib.ItoaNum
import Derived.Lib.MinMax
import Derived.Lib.OthersKept
import Derived.Lib.ParseIntB
import Derived.Lib.UnsafeStr
import Derived.LoopTactic
import Derived.OneCell
import Derived.OwnWalk
import Derived.Recover
import Derived.RegionTactic
import Derived.Shelf.Abstract
import Derived.SizedLaws
import Derived.StillTailTactics
import Derived.Tactics
import Derived.Tactics2
import Derived.Test.YthponidjednfbaaGreatDoorChecked
import Derived.Test.YthponidjednfbaaGreatDoorEv3
import Derived.WalkKit
import Derived.WalkLawsBesides
import Derived.WalkSpells
import Derived.WideShapes
import Ieee.Arith
import Derived.Test.YthponidjednfbaaGreatDoorS00
import Derived.Test.YthponidjednfbaaGreatDoorS01
import Derived.Test.YthponidjednfbaaGreatDoorS02
import Derived.Test.YthponidjednfbaaGreatDoorS03
import Derived.Test.YthponidjednfbaaGreatDoorS06
namespace Go.Proofs.YthponidjednfbaaGreatDoor
open Go.RowKit
theorem enters_tsame : ∀ args w, (callFunc 15 args).run Tryz.prog w = .ok (.enter 15 args) w := enters_of Tryz.func15 (by kernel_rfl) rfl
theorem ev_of {S : Nat → Prop} {w : World} {d : Nat} {x : EvT} {pp pc p cap} (h : ValIn S w d x.v #[.int .i64 x.v.kind, .int .i64 x.v.num, .float .f64 x.v.flt, .string ⟨x.v.str.toArray⟩, .slice pp x.v.names.length pc, .slice p x.v.items.length cap]) : EvIn (fun _ => True) w d x #[.int .i64 x.label, .int .i64 x.kind, .int .i64 x.node, .int .i64 x.n, .int .i64 x.a, .int .i64 x.b, .int .i64 x.v.kind, .int .i64 x.v.num, .float .f64 x.v.flt, .string ⟨x.v.str.toArray⟩, .slice pp x.v.names.length pc, .slice p x.v.items.length cap, .int .i64 x.err] := ⟨pp, pc, p, cap, rfl, h.kept (Nat.le_refl _) (fun _ _ _ => ⟨trivial, rfl⟩)⟩
theorem EvIn.below {w w' : World} {d : Nat} {x : EvT} {ds : Array Value} (h : EvIn (fun _ => True) w d x ds) (hb : Below w.heap.size w w') : EvIn (fun _ => True) w' d x ds := (evK d).kept hb.size (fun g _ h2 => ⟨trivial, hb.block g h2⟩) h
set_option maxRecDepth 100000 in
set_option maxHeartbeats 4000000 in
theorem eqF_any (d d2 : Nat) (v v' : Value) (l m : List EvT) (w : World) (hv : SlG (evK d) (fun _ => True) w v l) (hv' : SlG (evK d2) (fun _ => True) w v' m) : Calls Tryz.prog 14 #[v, v', .func (.func 15) #[] #[]] w (Gives (.bool (sameEs l m)) w) := by
  have HV := Lib.hid (fun w' (k : Below w.heap.size w w') => hv.below k)
  have HV' := Lib.hid (fun w' (k : Below w.heap.size w w') => hv'.below k)
  obtain ⟨pa, pc0, rfl, _, _⟩ := hv
  obtain ⟨pb, pc2, rfl, _, _⟩ := hv'
  have hen := enters_tsame
  by_cases hlen : l.length = m.length
  case neg =>
    rw [sameEs_len hlen]
    have t0 : ((l.length : Int) != (m.length : Int)) = true := by rw [bne_iff_ne]; omega
    go_enter Tryz.func14, Tryz.ntmps14
    go_wp2_with fail
    go_ret
    exact ⟨rfl, Below.refl _ _⟩
  have t0 : ((l.length : Int) != (m.length : Int)) = false := by rw [hlen]; simp
  have h0 : Hid (sameEs l m = sameEs (l.drop 0) (m.drop 0)) := by show _ = _; rw [List.drop_zero, List.drop_zero]
  have HL := Lib.hid hlen; clear hlen
  go_enter Tryz.func14, Tryz.ntmps14
  go_wp2_with fail
  go_loopw [17] (fun iv wr => ∃ i : Nat, iv = .int .i64 (i : Int) ∧ i ≤ l.length ∧ Hid (sameEs l m = sameEs (l.drop i) (m.drop i)) ∧ Below w.heap.size w wr) (fun iv _ => l.length - (intOf iv).toNat)
  case atStart => exact ⟨0, rfl, Nat.zero_le _, h0, Below.refl _ _⟩
  case round =>
    clear h0
    obtain ⟨i, rfl, hi, hR, hb⟩ := hrel
    by_cases hil : i < l.length
    · have t1 : decide ((i : Int) < (l.length : Int)) = true := by simp; omega
      have i0 : (0 : Int) ≤ (i : Int) := by omega
      have i1 : (i : Int) < (m.length : Int) := by have := HL.out; omega
      obtain ⟨x, hx⟩ : ∃ x, l[i]? = some x := ⟨_, List.getElem?_eq_getElem hil⟩
      obtain ⟨y, hy⟩ : ∃ x, m[i]? = some x := ⟨_, List.getElem?_eq_getElem (by have := HL.out; omega)⟩
      have HR1 : Hid (sameEs l m = (sameEv x y && sameEs (l.drop (i + 1)) (m.drop (i + 1)))) := by show _ = _; rw [hR.out, sameEs_step hx hy]
      obtain ⟨g, off, rfl, _, hg, ds, hds, hr⟩ := (HV.out wr hb).item hx
      obtain ⟨pp1, pq1, p1, cap1, rfl, hvx⟩ := hds
      clear hR hx
      go_upto_region 6 with (first | (refine wpList_loadR rfl rfl rfl (by kernel_rfl) (n := 13) (by kernel_rfl) hr rfl ?_) | (refine wpList_rown rfl rfl rfl rfl rfl (n := 13) (by kernel_rfl) (heap_alloc_new _ _) rfl rfl (List.all_eq_true.1 (by kernel_rfl)) ?_; intro wx hgx FFx))
      have hAx : Below wr.heap.size wr wx := (((Fr.refl [wr.heap.size] wr).alloc _).trans FFx).below (Nat.le_refl _) (by simp)
      have hbx := hb.trans (hAx.mono hb.size)
      have hX := Lib.hid (fun w' (k : Below wx.heap.size wx w') => (ev_of (x := x) hvx).below (hAx.trans (k.mono hAx.size)))
      clear hr FFx hAx hvx
      obtain ⟨g2, off2, rfl, _, hg2, ds, hds, hr⟩ := (HV'.out wx hbx).item hy
      obtain ⟨pp2, pq2, p2, cap2, rfl, hvy⟩ := hds
      clear hy
      go_upto_region 7 with (first | (refine wpList_loadR rfl rfl rfl (by kernel_rfl) (n := 13) (by kernel_rfl) hr rfl ?_) | (refine wpList_rown rfl rfl rfl rfl rfl (n := 13) (by kernel_rfl) (heap_alloc_new _ _) rfl rfl (List.all_eq_true.1 (by kernel_rfl)) ?_; intro wy hgy FFy))
      have hAy : Below wx.heap.size wx wy := (((Fr.refl [wx.heap.size] wx).alloc _).trans FFy).below (Nat.le_refl _) (by simp)
      have hby := hbx.trans (hAy.mono hbx.size)
      have hgx2 := (hAy.block _ (lt_of_block hgx)).trans hgx
      have HS := Lib.hid (tSame_any d d2 x y _ _ wy (hX.out wy hAy) ((ev_of (x := y) hvy).below hAy))
      clear hr FFy hAy hvy hgx hX hbx hb
      have HE := Lib.hid hen; clear hen
      go_wp2_with (first | (refine wpList_loadG rfl rfl rfl (by kernel_rfl) (n := 13) (by kernel_rfl) hgx2 rfl ?_) | (refine wpList_loadG rfl rfl rfl (by kernel_rfl) (n := 13) (by kernel_rfl) hgy rfl ?_))
      refine (HS.out).mono ?_; rintro e w4 ⟨rfl, hb4⟩
      have hbz := hby.trans (hb4.mono hby.size)
      cases hp : sameEv x y with
      | true =>
        have HR2 : Hid (sameEs l m = sameEs (l.drop (i + 1)) (m.drop (i + 1))) := by show _ = _; rw [HR1.out, hp, Bool.true_and]
        clear HR1 hp HS hb4 hby hgx2 hgy
        go_wp2_with fail
        go_roundw
        case rel => exact ⟨i + 1, by go_num, by omega, HR2, hbz⟩
        case measure => simp [intOf]; omega
      | false =>
        have HR2 : Hid (sameEs l m = false) := by show _ = _; rw [HR1.out, hp, Bool.false_and]
        clear HR1 hp HS hb4 hby hgx2 hgy
        go_wp2_with fail
        go_ret
        exact ⟨ret_val (by rw [HR2.out]; rfl), hbz⟩
    · have t1 : decide ((i : Int) < (l.length : Int)) = false := by simp; omega
      have HR2 : Hid (sameEs l m = true) := by show _ = _; rw [hR.out, sameEs_end (by omega) (by have := HL.out; omega)]
      clear hR
      go_wp2_with fail
      go_ret
      exact ⟨ret_val (by rw [HR2.out]; rfl), hb⟩
set_option maxRecDepth 100000 in
set_option maxHeartbeats 4000000 in
theorem r22Same_any (d d2 : Nat) (v v' : Value) (l m : List EvT) (w : World) (hv : SlG (evK d) (fun _ => True) w v l) (hv' : SlG (evK d2) (fun _ => True) w v' m) : Calls Tryz.prog 16 #[v, v'] w (Gives (.bool (sameEs l m)) w) := by
  have HV := Lib.hid (fun w' (k : Below w.heap.size w w') => hv.below k)
  have HV' := Lib.hid (fun w' (k : Below w.heap.size w w') => hv'.below k)
  obtain ⟨pa, pc0, rfl, _, _⟩ := hv
  obtain ⟨pb, pc2, rfl, _, _⟩ := hv'
  by_cases hlen : l.length = m.length
  case neg =>
    rw [sameEs_len hlen]
    have t0 : ((l.length : Int) != (m.length : Int)) = true := by rw [bne_iff_ne]; omega
    go_enter Tryz.func16, Tryz.ntmps16
    go_wp2_with fail
    go_ret
    exact ⟨rfl, Below.refl _ _⟩
  have t0 : ((l.length : Int) != (m.length : Int)) = false := by rw [hlen]; simp
  have h0 : Hid (sameEs l m = sameEs (l.drop 0) (m.drop 0)) := by show _ = _; rw [List.drop_zero, List.drop_zero]
  have HL := Lib.hid hlen; clear hlen
  go_enter Tryz.func16, Tryz.ntmps16
  go_wp2_with fail
  go_loopw [5] (fun iv wr => ∃ i : Nat, iv = .int .i64 (i : Int) ∧ i ≤ l.length ∧ Hid (sameEs l m = sameEs (l.drop i) (m.drop i)) ∧ Below w.heap.size w wr) (fun iv _ => l.length - (intOf iv).toNat)
  case atStart => exact ⟨0, rfl, Nat.zero_le _, h0, Below.refl _ _⟩
  case round =>
    clear h0
    obtain ⟨i, rfl, hi, hR, hb⟩ := hrel
    by_cases hil : i < l.length
    · have t1 : decide ((i : Int) < (l.length : Int)) = true := by simp; omega
      have i0 : (0 : Int) ≤ (i : Int) := by omega
      have i2 : (i : Int) < (l.length : Int) := by omega
      have i1 : (i : Int) < (m.length : Int) := by have := HL.out; omega
      obtain ⟨x, hx⟩ : ∃ x, l[i]? = some x := ⟨_, List.getElem?_eq_getElem hil⟩
      obtain ⟨y, hy⟩ : ∃ x, m[i]? = some x := ⟨_, List.getElem?_eq_getElem (by have := HL.out; omega)⟩
      have HR1 : Hid (sameEs l m = (sameEv x y && sameEs (l.drop (i + 1)) (m.drop (i + 1)))) := by show _ = _; rw [hR.out, sameEs_step hx hy]
      obtain ⟨g, off, rfl, _, hg, ds, hds, hr⟩ := (HV.out wr hb).item hx
      obtain ⟨pp1, pq1, p1, cap1, rfl, hvx⟩ := hds
      obtain ⟨g2, off2, rfl, _, hg2, ds, hds, hr2⟩ := (HV'.out wr hb).item hy
      obtain ⟨pp2, pq2, p2, cap2, rfl, hvy⟩ := hds
      have hdb : Below wr.heap.size wr wr.drew := (Below.refl _ _).drew
      have HS := Lib.hid (rSameEv_any d d2 x y _ _ wr.drew ((ev_of (x := x) hvx).below hdb) ((ev_of (x := y) hvy).below hdb))
      have hgl : g < wr.drew.heap.size := hg
      have hgl2 : g2 < wr.drew.heap.size := hg2
      have a0 : wr.drew.cell? ⟨g, off + i * 13, none⟩ = some (.int .i64 x.label) := hr 0 _ rfl
      have a1 : wr.drew.cell? ⟨g, off + i * 13 + 1, none⟩ = some (.int .i64 x.kind) := hr 1 _ rfl
      have a2 : wr.drew.cell? ⟨g, off + i * 13 + 2, none⟩ = some (.int .i64 x.node) := hr 2 _ rfl
      have a3 : wr.drew.cell? ⟨g, off + i * 13 + 3, none⟩ = some (.int .i64 x.n) := hr 3 _ rfl
      have a4 : wr.drew.cell? ⟨g, off + i * 13 + 4, none⟩ = some (.int .i64 x.a) := hr 4 _ rfl
      have a5 : wr.drew.cell? ⟨g, off + i * 13 + 5, none⟩ = some (.int .i64 x.b) := hr 5 _ rfl
      have a6 : wr.drew.cell? ⟨g, off + i * 13 + 6, none⟩ = some (.int .i64 x.v.kind) := hr 6 _ rfl
      have a7 : wr.drew.cell? ⟨g, off + i * 13 + 7, none⟩ = some (.int .i64 x.v.num) := hr 7 _ rfl
      have a8 : wr.drew.cell? ⟨g, off + i * 13 + 8, none⟩ = some (.float .f64 x.v.flt) := hr 8 _ rfl
      have a9 : wr.drew.cell? ⟨g, off + i * 13 + 9, none⟩ = some (.string ⟨x.v.str.toArray⟩) := hr 9 _ rfl
      have a10 : wr.drew.cell? ⟨g, off + i * 13 + 10, none⟩ = some (.slice pp1 x.v.names.length pq1) := hr 10 _ rfl
      have a11 : wr.drew.cell? ⟨g, off + i * 13 + 11, none⟩ = some (.slice p1 x.v.items.length cap1) := hr 11 _ rfl
      have a12 : wr.drew.cell? ⟨g, off + i * 13 + 12, none⟩ = some (.int .i64 x.err) := hr 12 _ rfl
      have c0 : wr.drew.cell? ⟨g2, off2 + i * 13, none⟩ = some (.int .i64 y.label) := hr2 0 _ rfl
      have c1 : wr.drew.cell? ⟨g2, off2 + i * 13 + 1, none⟩ = some (.int .i64 y.kind) := hr2 1 _ rfl
      have c2 : wr.drew.cell? ⟨g2, off2 + i * 13 + 2, none⟩ = some (.int .i64 y.node) := hr2 2 _ rfl
      have c3 : wr.drew.cell? ⟨g2, off2 + i * 13 + 3, none⟩ = some (.int .i64 y.n) := hr2 3 _ rfl
      have c4 : wr.drew.cell? ⟨g2, off2 + i * 13 + 4, none⟩ = some (.int .i64 y.a) := hr2 4 _ rfl
      have c5 : wr.drew.cell? ⟨g2, off2 + i * 13 + 5, none⟩ = some (.int .i64 y.b) := hr2 5 _ rfl
      have c6 : wr.drew.cell? ⟨g2, off2 + i * 13 + 6, none⟩ = some (.int .i64 y.v.kind) := hr2 6 _ rfl
      have c7 : wr.drew.cell? ⟨g2, off2 + i * 13 + 7, none⟩ = some (.int .i64 y.v.num) := hr2 7 _ rfl
      have c8 : wr.drew.cell? ⟨g2, off2 + i * 13 + 8, none⟩ = some (.float .f64 y.v.flt) := hr2 8 _ rfl
      have c9 : wr.drew.cell? ⟨g2, off2 + i * 13 + 9, none⟩ = some (.string ⟨y.v.str.toArray⟩) := hr2 9 _ rfl
      have c10 : wr.drew.cell? ⟨g2, off2 + i * 13 + 10, none⟩ = some (.slice pp2 y.v.names.length pq2) := hr2 10 _ rfl
      have c11 : wr.drew.cell? ⟨g2, off2 + i * 13 + 11, none⟩ = some (.slice p2 y.v.items.length cap2) := hr2 11 _ rfl
      have c12 : wr.drew.cell? ⟨g2, off2 + i * 13 + 12, none⟩ = some (.int .i64 y.err) := hr2 12 _ rfl
      clear hR hx hy hr hr2 hvx hvy hg hg2
      go_upto_region 6 with (fail)
      go_region_held3 (fun z => z.cell? ⟨g, off + i * 13, none⟩ = some (.int .i64 x.label) ∧ z.cell? ⟨g, off + i * 13 + 1, none⟩ = some (.int .i64 x.kind) ∧ z.cell? ⟨g, off + i * 13 + 2, none⟩ = some (.int .i64 x.node) ∧ z.cell? ⟨g, off + i * 13 + 3, none⟩ = some (.int .i64 x.n) ∧ z.cell? ⟨g, off + i * 13 + 4, none⟩ = some (.int .i64 x.a) ∧ z.cell? ⟨g, off + i * 13 + 5, none⟩ = some (.int .i64 x.b) ∧ z.cell? ⟨g, off + i * 13 + 6, none⟩ = some (.int .i64 x.v.kind) ∧ z.cell? ⟨g, off + i * 13 + 7, none⟩ = some (.int .i64 x.v.num) ∧ z.cell? ⟨g, off + i * 13 + 8, none⟩ = some (.float .f64 x.v.flt) ∧ z.cell? ⟨g, off + i * 13 + 9, none⟩ = some (.string ⟨x.v.str.toArray⟩) ∧ z.cell? ⟨g, off + i * 13 + 10, none⟩ = some (.slice pp1 x.v.names.length pq1) ∧ z.cell? ⟨g, off + i * 13 + 11, none⟩ = some (.slice p1 x.v.items.length cap1) ∧ z.cell? ⟨g, off + i * 13 + 12, none⟩ = some (.int .i64 x.err) ∧ z.cell? ⟨g2, off2 + i * 13, none⟩ = some (.int .i64 y.label) ∧ z.cell? ⟨g2, off2 + i * 13 + 1, none⟩ = some (.int .i64 y.kind) ∧ z.cell? ⟨g2, off2 + i * 13 + 2, none⟩ = some (.int .i64 y.node) ∧ z.cell? ⟨g2, off2 + i * 13 + 3, none⟩ = some (.int .i64 y.n) ∧ z.cell? ⟨g2, off2 + i * 13 + 4, none⟩ = some (.int .i64 y.a) ∧ z.cell? ⟨g2, off2 + i * 13 + 5, none⟩ = some (.int .i64 y.b) ∧ z.cell? ⟨g2, off2 + i * 13 + 6, none⟩ = some (.int .i64 y.v.kind) ∧ z.cell? ⟨g2, off2 + i * 13 + 7, none⟩ = some (.int .i64 y.v.num) ∧ z.cell? ⟨g2, off2 + i * 13 + 8, none⟩ = some (.float .f64 y.v.flt) ∧ z.cell? ⟨g2, off2 + i * 13 + 9, none⟩ = some (.string ⟨y.v.str.toArray⟩) ∧ z.cell? ⟨g2, off2 + i * 13 + 10, none⟩ = some (.slice pp2 y.v.names.length pq2) ∧ z.cell? ⟨g2, off2 + i * 13 + 11, none⟩ = some (.slice p2 y.v.items.length cap2) ∧ z.cell? ⟨g2, off2 + i * 13 + 12, none⟩ = some (.int .i64 y.err)) (first | with_reducible exact ⟨a0, a1, a2, a3, a4, a5, a6, a7, a8, a9, a10, a11, a12, c0, c1, c2, c3, c4, c5, c6, c7, c8, c9, c10, c11, c12⟩ | exact ⟨(hb5.cell (p := ⟨g, off + i * 13, none⟩) hgl).trans a0, (hb5.cell (p := ⟨g, off + i * 13 + 1, none⟩) hgl).trans a1, (hb5.cell (p := ⟨g, off + i * 13 + 2, none⟩) hgl).trans a2, (hb5.cell (p := ⟨g, off + i * 13 + 3, none⟩) hgl).trans a3, (hb5.cell (p := ⟨g, off + i * 13 + 4, none⟩) hgl).trans a4, (hb5.cell (p := ⟨g, off + i * 13 + 5, none⟩) hgl).trans a5, (hb5.cell (p := ⟨g, off + i * 13 + 6, none⟩) hgl).trans a6, (hb5.cell (p := ⟨g, off + i * 13 + 7, none⟩) hgl).trans a7, (hb5.cell (p := ⟨g, off + i * 13 + 8, none⟩) hgl).trans a8, (hb5.cell (p := ⟨g, off + i * 13 + 9, none⟩) hgl).trans a9, (hb5.cell (p := ⟨g, off + i * 13 + 10, none⟩) hgl).trans a10, (hb5.cell (p := ⟨g, off + i * 13 + 11, none⟩) hgl).trans a11, (hb5.cell (p := ⟨g, off + i * 13 + 12, none⟩) hgl).trans a12, (hb5.cell (p := ⟨g2, off2 + i * 13, none⟩) hgl2).trans c0, (hb5.cell (p := ⟨g2, off2 + i * 13 + 1, none⟩) hgl2).trans c1, (hb5.cell (p := ⟨g2, off2 + i * 13 + 2, none⟩) hgl2).trans c2, (hb5.cell (p := ⟨g2, off2 + i * 13 + 3, none⟩) hgl2).trans c3, (hb5.cell (p := ⟨g2, off2 + i * 13 + 4, none⟩) hgl2).trans c4, (hb5.cell (p := ⟨g2, off2 + i * 13 + 5, none⟩) hgl2).trans c5, (hb5.cell (p := ⟨g2, off2 + i * 13 + 6, none⟩) hgl2).trans c6, (hb5.cell (p := ⟨g2, off2 + i * 13 + 7, none⟩) hgl2).trans c7, (hb5.cell (p := ⟨g2, off2 + i * 13 + 8, none⟩) hgl2).trans c8, (hb5.cell (p := ⟨g2, off2 + i * 13 + 9, none⟩) hgl2).trans c9, (hb5.cell (p := ⟨g2, off2 + i * 13 + 10, none⟩) hgl2).trans c10, (hb5.cell (p := ⟨g2, off2 + i * 13 + 11, none⟩) hgl2).trans c11, (hb5.cell (p := ⟨g2, off2 + i * 13 + 12, none⟩) hgl2).trans c12⟩) ((go_at_call 36; (with_reducible refine (HS.out).mono ?_); rintro e w5 ⟨rfl, hb5⟩))
      have hbz := hb.trans ((undrew hb5).mono hb.size)
      cases hp : sameEv x y with
      | true =>
        have HR2 : Hid (sameEs l m = sameEs (l.drop (i + 1)) (m.drop (i + 1))) := by show _ = _; rw [HR1.out, hp, Bool.true_and]
        clear HR1 hp HS hb5 a0 a1 a2 a3 a4 a5 a6 a7 a8 a9 a10 a11 a12 c0 c1 c2 c3 c4 c5 c6 c7 c8 c9 c10 c11 c12
        go_wp2_with fail
        go_roundw
        case rel => exact ⟨i + 1, by go_num, by omega, HR2, hbz⟩
        case measure => simp [intOf]; omega
      | false =>
        have HR2 : Hid (sameEs l m = false) := by show _ = _; rw [HR1.out, hp, Bool.false_and]
        clear HR1 hp HS hb5 a0 a1 a2 a3 a4 a5 a6 a7 a8 a9 a10 a11 a12 c0 c1 c2 c3 c4 c5 c6 c7 c8 c9 c10 c11 c12
        go_wp2_with fail
        go_ret
        exact ⟨ret_val (by rw [HR2.out]; rfl), hbz⟩
    · have t1 : decide ((i : Int) < (l.length : Int)) = false := by simp; omega
      have HR2 : Hid (sameEs l m = true) := by show _ = _; rw [hR.out, sameEs_end (by omega) (by have := HL.out; omega)]
      clear hR
      go_wp2_with fail
      go_ret
      exact ⟨ret_val (by rw [HR2.out]; rfl), hb⟩
end Go.Proofs.YthponidjednfbaaGreatDoor
