/-
  Gi in one text.
-/
import Derived.ArgAppend
import Derived.Below
import Derived.BigQuiet
import Derived.Deep.AppendLies
import Derived.Deep.Cut
import Derived.Deep.CutBlock
import Derived.Deep.DeepCutAuto
import Derived.Deep.QuietTactic
import Derived.Deep.RegionHeld3
import Derived.Deep.RegionLaw
import Derived.Deep.RegionWith
import Derived.Deep.Upon
import Derived.Defers
import Derived.Handy
import Derived.IntWalk
import Derived.Laws.Bits64b
import Derived.Laws.FloatBits
import Derived.Laws.OwnMore
import Derived.Lib.AtoiAll
import Derived.Lib.Builder
import Derived.Lib.Bytes
import Derived.Lib.ConvBytes
import Derived.Lib.FrozenHead2
import Derived.Lib.Hide
import Derived.Lib.IndexMore
import Derived.Lib.ItoaNum
import Derived.Lib.MinMax
import Derived.Lib.OthersKept
import Derived.Lib.ParseIntB
import Derived.Lib.UnsafeStr
import Derived.LoopTactic
import Derived.OneCell
import Derived.OwnWalk
import Derived.Recover
import Derived.RegionTactic
import Derived.Shelf.Abstract
import Derived.StillTailTactics
import Derived.Tactics
import Derived.Tactics2
import Derived.Test.YtnaamiecljinnaaGreatChecked
import Derived.WalkKit
import Derived.WalkLawsBesides
import Derived.WalkSpells
import Ieee.Arith
import Derived.Test.YtnaamiecljinnaaGreatS00
import Derived.Test.YtnaamiecljinnaaGreatS02
import Derived.Test.YtnaamiecljinnaaGreatS15
import Derived.Test.YtnaamiecljinnaaGreatS17
import Derived.Test.YtnaamiecljinnaaGreatS18
import Derived.Test.YtnaamiecljinnaaGreatS30
import Derived.Test.YtnaamiecljinnaaGreatS36
namespace Go.Proofs.YtnaamiecljinnaaGreat
open Go.RowKit
theorem can_zero {a b : List Int} (h : canI (a, []) = canI (b, [])) : a = b := by
  unfold canI at h
  simpa using h
theorem two_alloc {B w : World} (h : Below B.heap.size B w) (A C : Array Value) (T U : TypeId) :
    ((w.alloc (.cells A T)).alloc (.cells C U)).drew.heap[w.heap.size]? = some (.cells A T (0, 0)) ∧ ((w.alloc (.cells A T)).alloc (.cells C U)).drew.heap[w.heap.size + 1]? = some (.cells C U (0, 0)) ∧ Below B.heap.size B ((w.alloc (.cells A T)).alloc (.cells C U)).drew := by
  have ez : (w.alloc (.cells A T)).heap.size = w.heap.size + 1 := by simp
  refine ⟨?_, ?_, ?_⟩
  · show ((w.alloc (.cells A T)).alloc (.cells C U)).heap[w.heap.size]? = _
    rw [Lib.alloc_old _ _ _ (by simp)]; exact heap_alloc_new w _
  · show ((w.alloc (.cells A T)).alloc (.cells C U)).heap[w.heap.size + 1]? = _
    have := heap_alloc_new (w.alloc (.cells A T)) (.cells C U)
    rwa [ez] at this
  · exact ((h.alloc h.size _).alloc (by have := h.size; omega) _).drew
theorem can_two {a b : List Int} {v v' v2 v2' : VT} (h : canI (a, [v, v']) = canI (b, [v2, v2'])) : a = b ∧ canV v = canV v2 ∧ canV v' = canV v2' := by
  unfold canI at h
  simpa using h
set_option maxRecDepth 100000 in
set_option maxHeartbeats 4000000 in
theorem rsamePart_any (P Q : PartT) (d dq : Nat) (cs cs2 : Array Value) (w : World) (hp : PartAt w (d + 1) P cs) (hq : PartAt w (dq + 1) Q cs2) (hs : canP P = canP Q) :
    Calls Tryz.prog 11 #[.agg cs, .agg cs2] w (Gives (.bool true) w) := by
  unfold canP at hs
  simp only [PartT.mk.injEq] at hs
  obtain ⟨hs1, hs2, hc0, hc1, hc2, hc3, hc4⟩ := hs
  obtain ⟨_, _, _, _, _, rfl, ⟨s0, c0, rfl, hl0, hi0⟩, ⟨s1, c1, rfl, hl1, hi1⟩, ⟨s2, c2, rfl, hl2, hi2⟩, ⟨s3, c3, rfl, hl3, hi3⟩, h4⟩ := hp
  obtain ⟨_, _, _, _, _, rfl, ⟨r0, e0, rfl, _, ki0⟩, ⟨r1, e1, rfl, _, ki1⟩, ⟨r2, e2, rfl, _, ki2⟩, ⟨r3, e3, rfl, _, ki3⟩, k4⟩ := hq
  have HAu := Lib.hid (fun x (hx : Below w.heap.size w x) => rsameAudits_any P.audits Q.audits (d + 1) (dq + 1) _ _ x (h4.kept hx) (k4.kept hx) hc4)
  obtain ⟨s4, c4, rfl, _⟩ := h4
  obtain ⟨r4, e4, rfl, _⟩ := k4
  rw [← hs1, ← hs2]
  rw [← can_len hc0] at ki0 ⊢
  rw [← can_len hc1] at ki1 ⊢
  rw [← can_len hc2] at ki2 ⊢
  rw [← can_len hc3] at ki3 ⊢
  rw [← can_len hc4] at HAu ⊢
  have HA0 := Lib.hid hi0; have HQ0 := Lib.hid ki0; have HC0 := Lib.hid (fun i (hi : i < P.waits.length) => can_at hc0 hi)
  clear hi0 ki0 hc0
  have HA1 := Lib.hid hi1; have HQ1 := Lib.hid ki1; have HC1 := Lib.hid (fun i (hi : i < P.spots.length) => can_at hc1 hi)
  clear hi1 ki1 hc1
  have HA2 := Lib.hid hi2; have HQ2 := Lib.hid ki2; have HC2 := Lib.hid (fun i (hi : i < P.puts.length) => can_at hc2 hi)
  clear hi2 ki2 hc2
  have HA3 := Lib.hid hi3; have HQ3 := Lib.hid ki3; have HC3 := Lib.hid (fun i (hi : i < P.letters.length) => can_at hc3 hi)
  clear hi3 ki3 hc3
  clear hc4 hs1 hs2
  generalize P.waits.length = N0 at *
  have tn0 : ((N0 : Int) != (N0 : Int)) = false := by simp
  generalize P.spots.length = N1 at *
  have tn1 : ((N1 : Int) != (N1 : Int)) = false := by simp
  generalize P.puts.length = N2 at *
  have tn2 : ((N2 : Int) != (N2 : Int)) = false := by simp
  generalize P.letters.length = N3 at *
  have tn3 : ((N3 : Int) != (N3 : Int)) = false := by simp
  generalize P.audits.length = N4 at *
  have tn4 : ((N4 : Int) != (N4 : Int)) = false := by simp
  have tx : (P.next != P.next) = false := by simp
  have ty : (P.begun != P.begun) = false := by simp
  have hB : Below w.heap.size w ((w.alloc (.cells #[.int .i64 P.next, .int .i64 P.begun, .slice s0 N0 c0, .slice s1 N1 c1, .slice s2 N2 c2, .slice s3 N3 c3, .slice s4 N4 c4] 28)).alloc (.cells #[.int .i64 P.next, .int .i64 P.begun, .slice r0 N0 e0, .slice r1 N1 e1, .slice r2 N2 e2, .slice r3 N3 e3, .slice r4 N4 e4] 28)) := ((Below.refl _ _).alloc (Nat.le_refl _) _).alloc (by simp) _
  have ez : (w.alloc (.cells #[.int .i64 P.next, .int .i64 P.begun, .slice s0 N0 c0, .slice s1 N1 c1, .slice s2 N2 c2, .slice s3 N3 c3, .slice s4 N4 c4] 28)).heap.size = w.heap.size + 1 := by simp
  have hnA : ((w.alloc (.cells #[.int .i64 P.next, .int .i64 P.begun, .slice s0 N0 c0, .slice s1 N1 c1, .slice s2 N2 c2, .slice s3 N3 c3, .slice s4 N4 c4] 28)).alloc (.cells #[.int .i64 P.next, .int .i64 P.begun, .slice r0 N0 e0, .slice r1 N1 e1, .slice r2 N2 e2, .slice r3 N3 e3, .slice r4 N4 e4] 28)).heap[w.heap.size]? = some (.cells #[.int .i64 P.next, .int .i64 P.begun, .slice s0 N0 c0, .slice s1 N1 c1, .slice s2 N2 c2, .slice s3 N3 c3, .slice s4 N4 c4] 28 (0, 0)) := by
    rw [Lib.alloc_old _ _ _ (by simp)]; exact heap_alloc_new w _
  have hnB : ((w.alloc (.cells #[.int .i64 P.next, .int .i64 P.begun, .slice s0 N0 c0, .slice s1 N1 c1, .slice s2 N2 c2, .slice s3 N3 c3, .slice s4 N4 c4] 28)).alloc (.cells #[.int .i64 P.next, .int .i64 P.begun, .slice r0 N0 e0, .slice r1 N1 e1, .slice r2 N2 e2, .slice r3 N3 e3, .slice r4 N4 e4] 28)).heap[w.heap.size + 1]? = some (.cells #[.int .i64 P.next, .int .i64 P.begun, .slice r0 N0 e0, .slice r1 N1 e1, .slice r2 N2 e2, .slice r3 N3 e3, .slice r4 N4 e4] 28 (0, 0)) := by
    have := heap_alloc_new (w.alloc (.cells #[.int .i64 P.next, .int .i64 P.begun, .slice s0 N0 c0, .slice s1 N1 c1, .slice s2 N2 c2, .slice s3 N3 c3, .slice s4 N4 c4] 28)) (.cells #[.int .i64 P.next, .int .i64 P.begun, .slice r0 N0 e0, .slice r1 N1 e1, .slice r2 N2 e2, .slice r3 N3 e3, .slice r4 N4 e4] 28)
    rwa [ez] at this
  clear ez
  have hsf : ∀ (a : Addr) (x : Nat) (m : Mode) (w : World), (store a (.float .f64 x) m).run Tryz.prog w = stored Tryz.prog w a (.float .f64 x) m := fun a x m w => run_store _ w a _ m rfl
  go_enter Tryz.func11, Tryz.ntmps11
  go_upto_region 1 with (fail)
  generalize (w.alloc (.cells #[.int .i64 P.next, .int .i64 P.begun, .slice s0 N0 c0, .slice s1 N1 c1, .slice s2 N2 c2, .slice s3 N3 c3, .slice s4 N4 c4] 28)).alloc (.cells #[.int .i64 P.next, .int .i64 P.begun, .slice r0 N0 e0, .slice r1 N1 e1, .slice r2 N2 e2, .slice r3 N3 e3, .slice r4 N4 e4] 28) = WB at *
  have HBl := Lib.hid (fun x (h : Below WB.heap.size WB x) => (show x.heap[w.heap.size]? = some (.cells #[.int .i64 P.next, .int .i64 P.begun, .slice s0 N0 c0, .slice s1 N1 c1, .slice s2 N2 c2, .slice s3 N3 c3, .slice s4 N4 c4] 28 (0, 0)) ∧ x.heap[w.heap.size + 1]? = some (.cells #[.int .i64 P.next, .int .i64 P.begun, .slice r0 N0 e0, .slice r1 N1 e1, .slice r2 N2 e2, .slice r3 N3 e3, .slice r4 N4 e4] 28 (0, 0)) from ⟨(h.block _ (lt_of_block hnA)).trans hnA, (h.block _ (lt_of_block hnB)).trans hnB⟩))
  have HUw := Lib.hid (fun x (h : Below WB.heap.size WB x) => (show Below w.heap.size w x from hB.trans (h.mono hB.size)))
  have HAW := Lib.hid (HAu.out _ hB)
  have hAA := hnA; have hBB := hnB
  clear HAu hnA hnB
  have HFin := Lib.hid hB
  generalize hgh : w.heap.size = H at *
  have HH := Lib.hid hgh; clear hgh
  have HUv := Lib.hid (fun x h => (show Below w.heap.size w x by rw [HH.out]; exact HUw.out x h))
  have d0 : WB.cell? ⟨H, 0, none⟩ = some (.int .i64 P.next) := by rw [Lib.cell_of_heap hAA]; rfl
  have f0 : WB.cell? ⟨H + 1, 0, none⟩ = some (.int .i64 P.next) := by rw [Lib.cell_of_heap hBB]; rfl
  have d1 : WB.cell? ⟨H, 1, none⟩ = some (.int .i64 P.begun) := by rw [Lib.cell_of_heap hAA]; rfl
  have f1 : WB.cell? ⟨H + 1, 1, none⟩ = some (.int .i64 P.begun) := by rw [Lib.cell_of_heap hBB]; rfl
  have d2 : WB.cell? ⟨H, 2, none⟩ = some (.slice s0 N0 c0) := by rw [Lib.cell_of_heap hAA]; rfl
  have f2 : WB.cell? ⟨H + 1, 2, none⟩ = some (.slice r0 N0 e0) := by rw [Lib.cell_of_heap hBB]; rfl
  have d3 : WB.cell? ⟨H, 3, none⟩ = some (.slice s1 N1 c1) := by rw [Lib.cell_of_heap hAA]; rfl
  have f3 : WB.cell? ⟨H + 1, 3, none⟩ = some (.slice r1 N1 e1) := by rw [Lib.cell_of_heap hBB]; rfl
  have d4 : WB.cell? ⟨H, 4, none⟩ = some (.slice s2 N2 c2) := by rw [Lib.cell_of_heap hAA]; rfl
  have f4 : WB.cell? ⟨H + 1, 4, none⟩ = some (.slice r2 N2 e2) := by rw [Lib.cell_of_heap hBB]; rfl
  have d5 : WB.cell? ⟨H, 5, none⟩ = some (.slice s3 N3 c3) := by rw [Lib.cell_of_heap hAA]; rfl
  have f5 : WB.cell? ⟨H + 1, 5, none⟩ = some (.slice r3 N3 e3) := by rw [Lib.cell_of_heap hBB]; rfl
  have d6 : WB.cell? ⟨H, 6, none⟩ = some (.slice s4 N4 c4) := by rw [Lib.cell_of_heap hAA]; rfl
  have f6 : WB.cell? ⟨H + 1, 6, none⟩ = some (.slice r4 N4 e4) := by rw [Lib.cell_of_heap hBB]; rfl
  go_wp2_with fail
  refine (HAW.out).mono ?_; rintro e W0 ⟨rfl, hw0⟩
  clear d0 f0 d1 f1 d2 f2 d3 f3 d4 f4 d5 f5 d6 f6 hAA hBB HAW
  have d0 : W0.cell? ⟨H, 2, none⟩ = some (.slice s0 N0 c0) := by rw [Lib.cell_of_heap ((HBl.out _ hw0).1)]; rfl
  go_wp2_with fail
  clear d0
  go_loopw [5] (fun iv wr => ∃ i : Nat, iv = .int .i64 (i : Int) ∧ i ≤ N0 ∧ Below WB.heap.size WB wr) (fun iv _ => N0 - (intOf iv).toNat)
  case atStart => exact ⟨0, rfl, by omega, hw0⟩
  case round =>
    clear hw0
    obtain ⟨i, rfl, hi, hb⟩ := hrel
    have d0 : wr.cell? ⟨H, 2, none⟩ = some (.slice s0 N0 c0) := by rw [Lib.cell_of_heap ((HBl.out _ hb).1)]; rfl
    have f0 : wr.cell? ⟨H + 1, 2, none⟩ = some (.slice r0 N0 e0) := by rw [Lib.cell_of_heap ((HBl.out _ hb).2)]; rfl
    by_cases hlt : i < N0
    · have t0 : decide ((i : Int) < (N0 : Int)) = true := by simp; omega
      obtain ⟨g, off, hsp, hgl, ds, hit, hcl⟩ := HA0.out i hlt
      obtain ⟨g', off', hsp', hgl', ds', hit', hcl'⟩ := HQ0.out i hlt
      subst hsp; subst hsp'
      have hc := HC0.out i hlt
      generalize P.waits.getD i ([], []) = x at *
      generalize Q.waits.getD i ([], []) = y at *
      obtain ⟨a0, a1, a2, a3, a4, v, pp, pc, p', cap, rfl, hv, rfl⟩ := hit.open51
      obtain ⟨b0, b1, b2, b3, b4, v2, pp2, pc2, p2, cap2, rfl, hv2, rfl⟩ := hit'.open51
      obtain ⟨hab, hcv⟩ := can_one hc
      simp only [List.cons.injEq, and_true] at hab
      obtain ⟨rfl, rfl, rfl, rfl, rfl⟩ := hab
      have hbw := HUw.out _ hb
      have x0 := (hbw.cell (p := ⟨g, off + i * 11 + 0, none⟩) hgl).trans (hcl 0 (by omega))
      have y0 := (hbw.cell (p := ⟨g', off' + i * 11 + 0, none⟩) hgl').trans (hcl' 0 (by omega))
      have x1 := (hbw.cell (p := ⟨g, off + i * 11 + 1, none⟩) hgl).trans (hcl 1 (by omega))
      have y1 := (hbw.cell (p := ⟨g', off' + i * 11 + 1, none⟩) hgl').trans (hcl' 1 (by omega))
      have x2 := (hbw.cell (p := ⟨g, off + i * 11 + 2, none⟩) hgl).trans (hcl 2 (by omega))
      have y2 := (hbw.cell (p := ⟨g', off' + i * 11 + 2, none⟩) hgl').trans (hcl' 2 (by omega))
      have x3 := (hbw.cell (p := ⟨g, off + i * 11 + 3, none⟩) hgl).trans (hcl 3 (by omega))
      have y3 := (hbw.cell (p := ⟨g', off' + i * 11 + 3, none⟩) hgl').trans (hcl' 3 (by omega))
      have x4 := (hbw.cell (p := ⟨g, off + i * 11 + 4, none⟩) hgl).trans (hcl 4 (by omega))
      have y4 := (hbw.cell (p := ⟨g', off' + i * 11 + 4, none⟩) hgl').trans (hcl' 4 (by omega))
      have x5 := (hbw.cell (p := ⟨g, off + i * 11 + 5, none⟩) hgl).trans (hcl 5 (by omega))
      have y5 := (hbw.cell (p := ⟨g', off' + i * 11 + 5, none⟩) hgl').trans (hcl' 5 (by omega))
      have x6 := (hbw.cell (p := ⟨g, off + i * 11 + 6, none⟩) hgl).trans (hcl 6 (by omega))
      have y6 := (hbw.cell (p := ⟨g', off' + i * 11 + 6, none⟩) hgl').trans (hcl' 6 (by omega))
      have x7 := (hbw.cell (p := ⟨g, off + i * 11 + 7, none⟩) hgl).trans (hcl 7 (by omega))
      have y7 := (hbw.cell (p := ⟨g', off' + i * 11 + 7, none⟩) hgl').trans (hcl' 7 (by omega))
      have x8 := (hbw.cell (p := ⟨g, off + i * 11 + 8, none⟩) hgl).trans (hcl 8 (by omega))
      have y8 := (hbw.cell (p := ⟨g', off' + i * 11 + 8, none⟩) hgl').trans (hcl' 8 (by omega))
      have x9 := (hbw.cell (p := ⟨g, off + i * 11 + 9, none⟩) hgl).trans (hcl 9 (by omega))
      have y9 := (hbw.cell (p := ⟨g', off' + i * 11 + 9, none⟩) hgl').trans (hcl' 9 (by omega))
      have x10 := (hbw.cell (p := ⟨g, off + i * 11 + 10, none⟩) hgl).trans (hcl 10 (by omega))
      have y10 := (hbw.cell (p := ⟨g', off' + i * 11 + 10, none⟩) hgl').trans (hcl' 10 (by omega))
      simp at x0 y0 x1 y1 x2 y2 x3 y3 x4 y4 x5 y5 x6 y6 x7 y7 x8 y8 x9 y9 x10 y10
      have i1 : (0 : Int) ≤ (i : Int) := by omega
      have i2 : (i : Int) < (N0 : Int) := by omega
      have HS := Lib.hid (fun x (hx : Below w.heap.size w x) => (show Calls Tryz.prog 26 #[.agg #[.int .i64 v.kind, .int .i64 v.num, .float .f64 v.flt, .string ⟨v.str.toArray⟩, .slice pp v.names.length pc, .slice p' v.items.length cap], .agg #[.int .i64 v2.kind, .int .i64 v2.num, .float .f64 v2.flt, .string ⟨v2.str.toArray⟩, .slice pp2 v2.names.length pc2, .slice p2 v2.items.length cap2]] x (Gives (.bool true) x) from by
        have h9 := rSame_any (d + 1) (dq + 1) v v2 _ _ x (hv.kept hx) (hv2.kept hx)
        rw [sameV_can hcv] at h9; exact h9))
      clear hcv hc hit hit' hcl hcl' hv hv2
      go_upto_region 6 with (fail)
      go_cut [6, 7] (fun qv rv wx => ∃ Q1 Q2, qv = .pointer (some ⟨Q1, 0, none⟩) ∧ rv = .pointer (some ⟨Q2, 0, none⟩) ∧ wx.heap[Q1]? = some (.cells #[.int .i64 a0, .int .i64 a1, .int .i64 a2, .int .i64 a3, .int .i64 a4, .int .i64 v.kind, .int .i64 v.num, .float .f64 v.flt, .string ⟨v.str.toArray⟩, .slice pp v.names.length pc, .slice p' v.items.length cap] 59 (0, 0)) ∧ wx.heap[Q2]? = some (.cells #[.int .i64 a0, .int .i64 a1, .int .i64 a2, .int .i64 a3, .int .i64 a4, .int .i64 v2.kind, .int .i64 v2.num, .float .f64 v2.flt, .string ⟨v2.str.toArray⟩, .slice pp2 v2.names.length pc2, .slice p2 v2.items.length cap2] 59 (0, 0)) ∧ Below WB.heap.size WB wx)
      case first =>
        have hgw : g < wr.heap.size := by have := hbw.size; rw [HH.out] at this; exact Nat.lt_of_lt_of_le hgl this
        have hgw' : g' < wr.heap.size := by have := hbw.size; rw [HH.out] at this; exact Nat.lt_of_lt_of_le hgl' this
        have HKp := Lib.hid (fun z (hz : Below wr.heap.size wr z) => (show z.cell? ⟨H, 2, none⟩ = some (.slice (some ⟨g, off, none⟩) N0 c0) ∧ z.cell? ⟨H + 1, 2, none⟩ = some (.slice (some ⟨g', off', none⟩) N0 e0) ∧ z.cell? ⟨g, off + i * 11, none⟩ = some (.int .i64 a0) ∧ z.cell? ⟨g', off' + i * 11, none⟩ = some (.int .i64 a0) ∧ z.cell? ⟨g, off + i * 11 + 1, none⟩ = some (.int .i64 a1) ∧ z.cell? ⟨g', off' + i * 11 + 1, none⟩ = some (.int .i64 a1) ∧ z.cell? ⟨g, off + i * 11 + 2, none⟩ = some (.int .i64 a2) ∧ z.cell? ⟨g', off' + i * 11 + 2, none⟩ = some (.int .i64 a2) ∧ z.cell? ⟨g, off + i * 11 + 3, none⟩ = some (.int .i64 a3) ∧ z.cell? ⟨g', off' + i * 11 + 3, none⟩ = some (.int .i64 a3) ∧ z.cell? ⟨g, off + i * 11 + 4, none⟩ = some (.int .i64 a4) ∧ z.cell? ⟨g', off' + i * 11 + 4, none⟩ = some (.int .i64 a4) ∧ z.cell? ⟨g, off + i * 11 + 5, none⟩ = some (.int .i64 v.kind) ∧ z.cell? ⟨g', off' + i * 11 + 5, none⟩ = some (.int .i64 v2.kind) ∧ z.cell? ⟨g, off + i * 11 + 6, none⟩ = some (.int .i64 v.num) ∧ z.cell? ⟨g', off' + i * 11 + 6, none⟩ = some (.int .i64 v2.num) ∧ z.cell? ⟨g, off + i * 11 + 7, none⟩ = some (.float .f64 v.flt) ∧ z.cell? ⟨g', off' + i * 11 + 7, none⟩ = some (.float .f64 v2.flt) ∧ z.cell? ⟨g, off + i * 11 + 8, none⟩ = some (.string ⟨v.str.toArray⟩) ∧ z.cell? ⟨g', off' + i * 11 + 8, none⟩ = some (.string ⟨v2.str.toArray⟩) ∧ z.cell? ⟨g, off + i * 11 + 9, none⟩ = some (.slice pp v.names.length pc) ∧ z.cell? ⟨g', off' + i * 11 + 9, none⟩ = some (.slice pp2 v2.names.length pc2) ∧ z.cell? ⟨g, off + i * 11 + 10, none⟩ = some (.slice p' v.items.length cap) ∧ z.cell? ⟨g', off' + i * 11 + 10, none⟩ = some (.slice p2 v2.items.length cap2) from ⟨(hz.cell (p := ⟨H, 2, none⟩) (lt_of_block (HBl.out _ hb).1)).trans d0, (hz.cell (p := ⟨H + 1, 2, none⟩) (lt_of_block (HBl.out _ hb).2)).trans f0, (hz.cell (p := ⟨g, off + i * 11, none⟩) hgw).trans x0, (hz.cell (p := ⟨g', off' + i * 11, none⟩) hgw').trans y0, (hz.cell (p := ⟨g, off + i * 11 + 1, none⟩) hgw).trans x1, (hz.cell (p := ⟨g', off' + i * 11 + 1, none⟩) hgw').trans y1, (hz.cell (p := ⟨g, off + i * 11 + 2, none⟩) hgw).trans x2, (hz.cell (p := ⟨g', off' + i * 11 + 2, none⟩) hgw').trans y2, (hz.cell (p := ⟨g, off + i * 11 + 3, none⟩) hgw).trans x3, (hz.cell (p := ⟨g', off' + i * 11 + 3, none⟩) hgw').trans y3, (hz.cell (p := ⟨g, off + i * 11 + 4, none⟩) hgw).trans x4, (hz.cell (p := ⟨g', off' + i * 11 + 4, none⟩) hgw').trans y4, (hz.cell (p := ⟨g, off + i * 11 + 5, none⟩) hgw).trans x5, (hz.cell (p := ⟨g', off' + i * 11 + 5, none⟩) hgw').trans y5, (hz.cell (p := ⟨g, off + i * 11 + 6, none⟩) hgw).trans x6, (hz.cell (p := ⟨g', off' + i * 11 + 6, none⟩) hgw').trans y6, (hz.cell (p := ⟨g, off + i * 11 + 7, none⟩) hgw).trans x7, (hz.cell (p := ⟨g', off' + i * 11 + 7, none⟩) hgw').trans y7, (hz.cell (p := ⟨g, off + i * 11 + 8, none⟩) hgw).trans x8, (hz.cell (p := ⟨g', off' + i * 11 + 8, none⟩) hgw').trans y8, (hz.cell (p := ⟨g, off + i * 11 + 9, none⟩) hgw).trans x9, (hz.cell (p := ⟨g', off' + i * 11 + 9, none⟩) hgw').trans y9, (hz.cell (p := ⟨g, off + i * 11 + 10, none⟩) hgw).trans x10, (hz.cell (p := ⟨g', off' + i * 11 + 10, none⟩) hgw').trans y10⟩))
        go_region_held3 (fun z => z.cell? ⟨H, 2, none⟩ = some (.slice (some ⟨g, off, none⟩) N0 c0) ∧ z.cell? ⟨H + 1, 2, none⟩ = some (.slice (some ⟨g', off', none⟩) N0 e0) ∧ z.cell? ⟨g, off + i * 11, none⟩ = some (.int .i64 a0) ∧ z.cell? ⟨g', off' + i * 11, none⟩ = some (.int .i64 a0) ∧ z.cell? ⟨g, off + i * 11 + 1, none⟩ = some (.int .i64 a1) ∧ z.cell? ⟨g', off' + i * 11 + 1, none⟩ = some (.int .i64 a1) ∧ z.cell? ⟨g, off + i * 11 + 2, none⟩ = some (.int .i64 a2) ∧ z.cell? ⟨g', off' + i * 11 + 2, none⟩ = some (.int .i64 a2) ∧ z.cell? ⟨g, off + i * 11 + 3, none⟩ = some (.int .i64 a3) ∧ z.cell? ⟨g', off' + i * 11 + 3, none⟩ = some (.int .i64 a3) ∧ z.cell? ⟨g, off + i * 11 + 4, none⟩ = some (.int .i64 a4) ∧ z.cell? ⟨g', off' + i * 11 + 4, none⟩ = some (.int .i64 a4) ∧ z.cell? ⟨g, off + i * 11 + 5, none⟩ = some (.int .i64 v.kind) ∧ z.cell? ⟨g', off' + i * 11 + 5, none⟩ = some (.int .i64 v2.kind) ∧ z.cell? ⟨g, off + i * 11 + 6, none⟩ = some (.int .i64 v.num) ∧ z.cell? ⟨g', off' + i * 11 + 6, none⟩ = some (.int .i64 v2.num) ∧ z.cell? ⟨g, off + i * 11 + 7, none⟩ = some (.float .f64 v.flt) ∧ z.cell? ⟨g', off' + i * 11 + 7, none⟩ = some (.float .f64 v2.flt) ∧ z.cell? ⟨g, off + i * 11 + 8, none⟩ = some (.string ⟨v.str.toArray⟩) ∧ z.cell? ⟨g', off' + i * 11 + 8, none⟩ = some (.string ⟨v2.str.toArray⟩) ∧ z.cell? ⟨g, off + i * 11 + 9, none⟩ = some (.slice pp v.names.length pc) ∧ z.cell? ⟨g', off' + i * 11 + 9, none⟩ = some (.slice pp2 v2.names.length pc2) ∧ z.cell? ⟨g, off + i * 11 + 10, none⟩ = some (.slice p' v.items.length cap) ∧ z.cell? ⟨g', off' + i * 11 + 10, none⟩ = some (.slice p2 v2.items.length cap2)) (first | exact ⟨d0, f0, x0, y0, x1, y1, x2, y2, x3, y3, x4, y4, x5, y5, x6, y6, x7, y7, x8, y8, x9, y9, x10, y10⟩ | exact HKp.out _ (by repeat (first | exact Below.refl _ _ | refine Below.drew ?_ | refine Below.setCell ?_ (by simp) _ | refine Below.alloc ?_ (by simp) _)) | go_keep) (fail)
        all_goals
          go_wp2_with fail
          go_meet
          case rel =>
            first
            | exact ⟨_, _, rfl, rfl, (two_alloc hb _ _ _ _).1, (two_alloc hb _ _ _ _).2.1, (two_alloc hb _ _ _ _).2.2⟩
            | exact ⟨_, _, rfl, rfl, (two_alloc hb _ _ _ _).2.1, (two_alloc hb _ _ _ _).1, (two_alloc hb _ _ _ _).2.2⟩
      case rest =>
        obtain ⟨Q1, Q2, rfl, rfl, hq1, hq2, hbc⟩ := hcut
        clear d0 f0 x0 y0 x1 y1 x2 y2 x3 y3 x4 y4 x5 y5 x6 y6 x7 y7 x8 y8 x9 y9 x10 y10 hb hbw
        have x0 : wc.cell? ⟨Q1, 0, none⟩ = some (.int .i64 a0) := by rw [Lib.cell_of_heap hq1]; rfl
        have y0 : wc.cell? ⟨Q2, 0, none⟩ = some (.int .i64 a0) := by rw [Lib.cell_of_heap hq2]; rfl
        have x1 : wc.cell? ⟨Q1, 1, none⟩ = some (.int .i64 a1) := by rw [Lib.cell_of_heap hq1]; rfl
        have y1 : wc.cell? ⟨Q2, 1, none⟩ = some (.int .i64 a1) := by rw [Lib.cell_of_heap hq2]; rfl
        have x2 : wc.cell? ⟨Q1, 2, none⟩ = some (.int .i64 a2) := by rw [Lib.cell_of_heap hq1]; rfl
        have y2 : wc.cell? ⟨Q2, 2, none⟩ = some (.int .i64 a2) := by rw [Lib.cell_of_heap hq2]; rfl
        have x3 : wc.cell? ⟨Q1, 3, none⟩ = some (.int .i64 a3) := by rw [Lib.cell_of_heap hq1]; rfl
        have y3 : wc.cell? ⟨Q2, 3, none⟩ = some (.int .i64 a3) := by rw [Lib.cell_of_heap hq2]; rfl
        have x4 : wc.cell? ⟨Q1, 4, none⟩ = some (.int .i64 a4) := by rw [Lib.cell_of_heap hq1]; rfl
        have y4 : wc.cell? ⟨Q2, 4, none⟩ = some (.int .i64 a4) := by rw [Lib.cell_of_heap hq2]; rfl
        have x5 : wc.cell? ⟨Q1, 5, none⟩ = some (.int .i64 v.kind) := by rw [Lib.cell_of_heap hq1]; rfl
        have y5 : wc.cell? ⟨Q2, 5, none⟩ = some (.int .i64 v2.kind) := by rw [Lib.cell_of_heap hq2]; rfl
        have x6 : wc.cell? ⟨Q1, 6, none⟩ = some (.int .i64 v.num) := by rw [Lib.cell_of_heap hq1]; rfl
        have y6 : wc.cell? ⟨Q2, 6, none⟩ = some (.int .i64 v2.num) := by rw [Lib.cell_of_heap hq2]; rfl
        have x7 : wc.cell? ⟨Q1, 7, none⟩ = some (.float .f64 v.flt) := by rw [Lib.cell_of_heap hq1]; rfl
        have y7 : wc.cell? ⟨Q2, 7, none⟩ = some (.float .f64 v2.flt) := by rw [Lib.cell_of_heap hq2]; rfl
        have x8 : wc.cell? ⟨Q1, 8, none⟩ = some (.string ⟨v.str.toArray⟩) := by rw [Lib.cell_of_heap hq1]; rfl
        have y8 : wc.cell? ⟨Q2, 8, none⟩ = some (.string ⟨v2.str.toArray⟩) := by rw [Lib.cell_of_heap hq2]; rfl
        have x9 : wc.cell? ⟨Q1, 9, none⟩ = some (.slice pp v.names.length pc) := by rw [Lib.cell_of_heap hq1]; rfl
        have y9 : wc.cell? ⟨Q2, 9, none⟩ = some (.slice pp2 v2.names.length pc2) := by rw [Lib.cell_of_heap hq2]; rfl
        have x10 : wc.cell? ⟨Q1, 10, none⟩ = some (.slice p' v.items.length cap) := by rw [Lib.cell_of_heap hq1]; rfl
        have y10 : wc.cell? ⟨Q2, 10, none⟩ = some (.slice p2 v2.items.length cap2) := by rw [Lib.cell_of_heap hq2]; rfl
        have HSS := Lib.hid (HS.out _ (HUv.out _ hbc))
        clear hq1 hq2
        go_wp2_with fail
        refine (HSS.out).mono ?_; rintro e w3 ⟨rfl, hb3⟩
        go_wp2_with fail
        go_roundw
        case rel => exact ⟨i + 1, by go_num, by omega, below_tr' hbc hb3⟩
        case measure => simp [intOf]; omega
    · have t0 : decide ((i : Int) < (N0 : Int)) = false := by simp; omega
      have hw1 := hb
      clear hb f0
      generalize wr = W1 at *
      have d1 : W1.cell? ⟨H, 3, none⟩ = some (.slice s1 N1 c1) := by rw [Lib.cell_of_heap ((HBl.out _ hw1).1)]; rfl
      go_wp2_with fail
      clear d1 d0
      go_loopw [8] (fun iv wr => ∃ i : Nat, iv = .int .i64 (i : Int) ∧ i ≤ N1 ∧ Below WB.heap.size WB wr) (fun iv _ => N1 - (intOf iv).toNat)
      case atStart => exact ⟨0, rfl, by omega, hw1⟩
      case round =>
        clear hw1
        obtain ⟨i, rfl, hi, hb⟩ := hrel
        have d1 : wr.cell? ⟨H, 3, none⟩ = some (.slice s1 N1 c1) := by rw [Lib.cell_of_heap ((HBl.out _ hb).1)]; rfl
        have f1 : wr.cell? ⟨H + 1, 3, none⟩ = some (.slice r1 N1 e1) := by rw [Lib.cell_of_heap ((HBl.out _ hb).2)]; rfl
        by_cases hlt : i < N1
        · have t0 : decide ((i : Int) < (N1 : Int)) = true := by simp; omega
          obtain ⟨g, off, hsp, hgl, ds, hit, hcl⟩ := HA1.out i hlt
          obtain ⟨g', off', hsp', hgl', ds', hit', hcl'⟩ := HQ1.out i hlt
          subst hsp; subst hsp'
          have hc := HC1.out i hlt
          generalize P.spots.getD i ([], []) = x at *
          generalize Q.spots.getD i ([], []) = y at *
          obtain ⟨a0, a1, a2, a3, rfl, rfl⟩ := hit.open40
          obtain ⟨b0, b1, b2, b3, rfl, rfl⟩ := hit'.open40
          have hab := can_zero hc
          simp only [List.cons.injEq, and_true] at hab
          obtain ⟨rfl, rfl, rfl, rfl⟩ := hab
          have hbw := HUw.out _ hb
          have x0 := (hbw.cell (p := ⟨g, off + i * 4 + 0, none⟩) hgl).trans (hcl 0 (by omega))
          have y0 := (hbw.cell (p := ⟨g', off' + i * 4 + 0, none⟩) hgl').trans (hcl' 0 (by omega))
          have x1 := (hbw.cell (p := ⟨g, off + i * 4 + 1, none⟩) hgl).trans (hcl 1 (by omega))
          have y1 := (hbw.cell (p := ⟨g', off' + i * 4 + 1, none⟩) hgl').trans (hcl' 1 (by omega))
          have x2 := (hbw.cell (p := ⟨g, off + i * 4 + 2, none⟩) hgl).trans (hcl 2 (by omega))
          have y2 := (hbw.cell (p := ⟨g', off' + i * 4 + 2, none⟩) hgl').trans (hcl' 2 (by omega))
          have x3 := (hbw.cell (p := ⟨g, off + i * 4 + 3, none⟩) hgl).trans (hcl 3 (by omega))
          have y3 := (hbw.cell (p := ⟨g', off' + i * 4 + 3, none⟩) hgl').trans (hcl' 3 (by omega))
          simp at x0 y0 x1 y1 x2 y2 x3 y3
          have i1 : (0 : Int) ≤ (i : Int) := by omega
          have i2 : (i : Int) < (N1 : Int) := by omega
          clear hcl hcl' hit hit' hc
          go_wp2_with fail
          go_quiet (fail)
          go_wp2_with fail
          go_roundw
          case rel => exact ⟨i + 1, by go_num, by omega, below_tr' hb (drewN_below _ _)⟩
          case measure => simp [intOf]; omega
        · have t0 : decide ((i : Int) < (N1 : Int)) = false := by simp; omega
          have hw2 := hb
          clear hb f1
          generalize wr = W2 at *
          have d2 : W2.cell? ⟨H, 4, none⟩ = some (.slice s2 N2 c2) := by rw [Lib.cell_of_heap ((HBl.out _ hw2).1)]; rfl
          go_wp2_with fail
          clear d2 d1
          go_loopw [9] (fun iv wr => ∃ i : Nat, iv = .int .i64 (i : Int) ∧ i ≤ N2 ∧ Below WB.heap.size WB wr) (fun iv _ => N2 - (intOf iv).toNat)
          case atStart => exact ⟨0, rfl, by omega, hw2⟩
          case round =>
            clear hw2
            obtain ⟨i, rfl, hi, hb⟩ := hrel
            have d2 : wr.cell? ⟨H, 4, none⟩ = some (.slice s2 N2 c2) := by rw [Lib.cell_of_heap ((HBl.out _ hb).1)]; rfl
            have f2 : wr.cell? ⟨H + 1, 4, none⟩ = some (.slice r2 N2 e2) := by rw [Lib.cell_of_heap ((HBl.out _ hb).2)]; rfl
            by_cases hlt : i < N2
            · have t0 : decide ((i : Int) < (N2 : Int)) = true := by simp; omega
              obtain ⟨g, off, hsp, hgl, ds, hit, hcl⟩ := HA2.out i hlt
              obtain ⟨g', off', hsp', hgl', ds', hit', hcl'⟩ := HQ2.out i hlt
              subst hsp; subst hsp'
              have hc := HC2.out i hlt
              generalize P.puts.getD i ([], []) = x at *
              generalize Q.puts.getD i ([], []) = y at *
              obtain ⟨a0, a1, a2, v, pp, pc, p', cap, rfl, hv, rfl⟩ := hit.open31
              obtain ⟨b0, b1, b2, v2, pp2, pc2, p2, cap2, rfl, hv2, rfl⟩ := hit'.open31
              obtain ⟨hab, hcv⟩ := can_one hc
              simp only [List.cons.injEq, and_true] at hab
              obtain ⟨rfl, rfl, rfl⟩ := hab
              have hbw := HUw.out _ hb
              have x0 := (hbw.cell (p := ⟨g, off + i * 9 + 0, none⟩) hgl).trans (hcl 0 (by omega))
              have y0 := (hbw.cell (p := ⟨g', off' + i * 9 + 0, none⟩) hgl').trans (hcl' 0 (by omega))
              have x1 := (hbw.cell (p := ⟨g, off + i * 9 + 1, none⟩) hgl).trans (hcl 1 (by omega))
              have y1 := (hbw.cell (p := ⟨g', off' + i * 9 + 1, none⟩) hgl').trans (hcl' 1 (by omega))
              have x2 := (hbw.cell (p := ⟨g, off + i * 9 + 2, none⟩) hgl).trans (hcl 2 (by omega))
              have y2 := (hbw.cell (p := ⟨g', off' + i * 9 + 2, none⟩) hgl').trans (hcl' 2 (by omega))
              have x3 := (hbw.cell (p := ⟨g, off + i * 9 + 3, none⟩) hgl).trans (hcl 3 (by omega))
              have y3 := (hbw.cell (p := ⟨g', off' + i * 9 + 3, none⟩) hgl').trans (hcl' 3 (by omega))
              have x4 := (hbw.cell (p := ⟨g, off + i * 9 + 4, none⟩) hgl).trans (hcl 4 (by omega))
              have y4 := (hbw.cell (p := ⟨g', off' + i * 9 + 4, none⟩) hgl').trans (hcl' 4 (by omega))
              have x5 := (hbw.cell (p := ⟨g, off + i * 9 + 5, none⟩) hgl).trans (hcl 5 (by omega))
              have y5 := (hbw.cell (p := ⟨g', off' + i * 9 + 5, none⟩) hgl').trans (hcl' 5 (by omega))
              have x6 := (hbw.cell (p := ⟨g, off + i * 9 + 6, none⟩) hgl).trans (hcl 6 (by omega))
              have y6 := (hbw.cell (p := ⟨g', off' + i * 9 + 6, none⟩) hgl').trans (hcl' 6 (by omega))
              have x7 := (hbw.cell (p := ⟨g, off + i * 9 + 7, none⟩) hgl).trans (hcl 7 (by omega))
              have y7 := (hbw.cell (p := ⟨g', off' + i * 9 + 7, none⟩) hgl').trans (hcl' 7 (by omega))
              have x8 := (hbw.cell (p := ⟨g, off + i * 9 + 8, none⟩) hgl).trans (hcl 8 (by omega))
              have y8 := (hbw.cell (p := ⟨g', off' + i * 9 + 8, none⟩) hgl').trans (hcl' 8 (by omega))
              simp at x0 y0 x1 y1 x2 y2 x3 y3 x4 y4 x5 y5 x6 y6 x7 y7 x8 y8
              have i1 : (0 : Int) ≤ (i : Int) := by omega
              have i2 : (i : Int) < (N2 : Int) := by omega
              have HS := rSame_any (d + 1) (dq + 1) v v2 _ _ wr.drew (hv.kept (HUv.out _ hb).drew) (hv2.kept (HUv.out _ hb).drew)
              rw [sameV_can hcv] at HS
              have HSS := Lib.hid HS
              clear HS hcv hc hit hit' hcl hcl' hv hv2
              go_wp2_with fail
              refine wp_still_tailG 41 (by kernel_rfl) (by kernel_rfl) ?_
              simp only [List.take_succ_cons, List.take_zero, List.drop_succ_cons, List.drop_zero]
              iterate 41 (refine StillG.step (fun K hK => ?_); go_simp; refine hK _ ?_; clear hK K)
              refine StillG.nil ?_
              go_wp2_with fail
              refine (HSS.out).mono ?_; rintro e w3 ⟨rfl, hb3⟩
              go_wp2_with fail
              go_roundw
              case rel => exact ⟨i + 1, by go_num, by omega, below_tr' hb (undrew hb3)⟩
              case measure => simp [intOf]; omega
            · have t0 : decide ((i : Int) < (N2 : Int)) = false := by simp; omega
              have hw3 := hb
              clear hb f2
              generalize wr = W3 at *
              have d3 : W3.cell? ⟨H, 5, none⟩ = some (.slice s3 N3 c3) := by rw [Lib.cell_of_heap ((HBl.out _ hw3).1)]; rfl
              go_wp2_with fail
              clear d3 d2
              go_loopw [10] (fun iv wr => ∃ i : Nat, iv = .int .i64 (i : Int) ∧ i ≤ N3 ∧ Below WB.heap.size WB wr) (fun iv _ => N3 - (intOf iv).toNat)
              case atStart => exact ⟨0, rfl, by omega, hw3⟩
              case round =>
                clear hw3
                obtain ⟨i, rfl, hi, hb⟩ := hrel
                have d3 : wr.cell? ⟨H, 5, none⟩ = some (.slice s3 N3 c3) := by rw [Lib.cell_of_heap ((HBl.out _ hb).1)]; rfl
                have f3 : wr.cell? ⟨H + 1, 5, none⟩ = some (.slice r3 N3 e3) := by rw [Lib.cell_of_heap ((HBl.out _ hb).2)]; rfl
                by_cases hlt : i < N3
                · have t0 : decide ((i : Int) < (N3 : Int)) = true := by simp; omega
                  obtain ⟨g, off, hsp, hgl, ds, hit, hcl⟩ := HA3.out i hlt
                  obtain ⟨g', off', hsp', hgl', ds', hit', hcl'⟩ := HQ3.out i hlt
                  subst hsp; subst hsp'
                  have hc := HC3.out i hlt
                  generalize P.letters.getD i ([], []) = x at *
                  generalize Q.letters.getD i ([], []) = y at *
                  obtain ⟨a0, v, pp, pc, p', cap, v', pq, pd, p1, cap1, rfl, hv, hv', rfl⟩ := hit.open12
                  obtain ⟨b0, v2, pp2, pc2, p2, cap2, v2', pq2, pd2, p3, cap3, rfl, hv2, hv2', rfl⟩ := hit'.open12
                  obtain ⟨hab, hcv, hcv'⟩ := can_two hc
                  simp only [List.cons.injEq, and_true] at hab
                  obtain rfl := hab
                  have hbw := HUw.out _ hb
                  have x0 := (hbw.cell (p := ⟨g, off + i * 13 + 0, none⟩) hgl).trans (hcl 0 (by omega))
                  have y0 := (hbw.cell (p := ⟨g', off' + i * 13 + 0, none⟩) hgl').trans (hcl' 0 (by omega))
                  have x1 := (hbw.cell (p := ⟨g, off + i * 13 + 1, none⟩) hgl).trans (hcl 1 (by omega))
                  have y1 := (hbw.cell (p := ⟨g', off' + i * 13 + 1, none⟩) hgl').trans (hcl' 1 (by omega))
                  have x2 := (hbw.cell (p := ⟨g, off + i * 13 + 2, none⟩) hgl).trans (hcl 2 (by omega))
                  have y2 := (hbw.cell (p := ⟨g', off' + i * 13 + 2, none⟩) hgl').trans (hcl' 2 (by omega))
                  have x3 := (hbw.cell (p := ⟨g, off + i * 13 + 3, none⟩) hgl).trans (hcl 3 (by omega))
                  have y3 := (hbw.cell (p := ⟨g', off' + i * 13 + 3, none⟩) hgl').trans (hcl' 3 (by omega))
                  have x4 := (hbw.cell (p := ⟨g, off + i * 13 + 4, none⟩) hgl).trans (hcl 4 (by omega))
                  have y4 := (hbw.cell (p := ⟨g', off' + i * 13 + 4, none⟩) hgl').trans (hcl' 4 (by omega))
                  have x5 := (hbw.cell (p := ⟨g, off + i * 13 + 5, none⟩) hgl).trans (hcl 5 (by omega))
                  have y5 := (hbw.cell (p := ⟨g', off' + i * 13 + 5, none⟩) hgl').trans (hcl' 5 (by omega))
                  have x6 := (hbw.cell (p := ⟨g, off + i * 13 + 6, none⟩) hgl).trans (hcl 6 (by omega))
                  have y6 := (hbw.cell (p := ⟨g', off' + i * 13 + 6, none⟩) hgl').trans (hcl' 6 (by omega))
                  have x7 := (hbw.cell (p := ⟨g, off + i * 13 + 7, none⟩) hgl).trans (hcl 7 (by omega))
                  have y7 := (hbw.cell (p := ⟨g', off' + i * 13 + 7, none⟩) hgl').trans (hcl' 7 (by omega))
                  have x8 := (hbw.cell (p := ⟨g, off + i * 13 + 8, none⟩) hgl).trans (hcl 8 (by omega))
                  have y8 := (hbw.cell (p := ⟨g', off' + i * 13 + 8, none⟩) hgl').trans (hcl' 8 (by omega))
                  have x9 := (hbw.cell (p := ⟨g, off + i * 13 + 9, none⟩) hgl).trans (hcl 9 (by omega))
                  have y9 := (hbw.cell (p := ⟨g', off' + i * 13 + 9, none⟩) hgl').trans (hcl' 9 (by omega))
                  have x10 := (hbw.cell (p := ⟨g, off + i * 13 + 10, none⟩) hgl).trans (hcl 10 (by omega))
                  have y10 := (hbw.cell (p := ⟨g', off' + i * 13 + 10, none⟩) hgl').trans (hcl' 10 (by omega))
                  have x11 := (hbw.cell (p := ⟨g, off + i * 13 + 11, none⟩) hgl).trans (hcl 11 (by omega))
                  have y11 := (hbw.cell (p := ⟨g', off' + i * 13 + 11, none⟩) hgl').trans (hcl' 11 (by omega))
                  have x12 := (hbw.cell (p := ⟨g, off + i * 13 + 12, none⟩) hgl).trans (hcl 12 (by omega))
                  have y12 := (hbw.cell (p := ⟨g', off' + i * 13 + 12, none⟩) hgl').trans (hcl' 12 (by omega))
                  simp at x0 y0 x1 y1 x2 y2 x3 y3 x4 y4 x5 y5 x6 y6 x7 y7 x8 y8 x9 y9 x10 y10 x11 y11 x12 y12
                  have i1 : (0 : Int) ≤ (i : Int) := by omega
                  have i2 : (i : Int) < (N3 : Int) := by omega
                  have HS := rSame_any (d + 1) (dq + 1) v v2 _ _ wr.drew (hv.kept (HUv.out _ hb).drew) (hv2.kept (HUv.out _ hb).drew)
                  rw [sameV_can hcv] at HS
                  have HSS := Lib.hid HS
                  have HT := Lib.hid (fun x (hx : Below w.heap.size w x) => (show Calls Tryz.prog 26 #[.agg #[.int .i64 v'.kind, .int .i64 v'.num, .float .f64 v'.flt, .string ⟨v'.str.toArray⟩, .slice pq v'.names.length pd, .slice p1 v'.items.length cap1], .agg #[.int .i64 v2'.kind, .int .i64 v2'.num, .float .f64 v2'.flt, .string ⟨v2'.str.toArray⟩, .slice pq2 v2'.names.length pd2, .slice p3 v2'.items.length cap3]] x (Gives (.bool true) x) from by
                    have h9 := rSame_any (d + 1) (dq + 1) v' v2' _ _ x (hv'.kept hx) (hv2'.kept hx)
                    rw [sameV_can hcv'] at h9; exact h9))
                  have HK := Lib.hid (fun z (hz : Below wr.heap.size wr z) => (show z.cell? ⟨H, 5, none⟩ = some (.slice (some ⟨g, off, none⟩) N3 c3) ∧ z.cell? ⟨H + 1, 5, none⟩ = some (.slice (some ⟨g', off', none⟩) N3 e3) ∧ z.cell? ⟨g, off + i * 13, none⟩ = some (.int .i64 a0) ∧ z.cell? ⟨g', off' + i * 13, none⟩ = some (.int .i64 a0) ∧ z.cell? ⟨g, off + i * 13 + 1, none⟩ = some (.int .i64 v.kind) ∧ z.cell? ⟨g', off' + i * 13 + 1, none⟩ = some (.int .i64 v2.kind) ∧ z.cell? ⟨g, off + i * 13 + 2, none⟩ = some (.int .i64 v.num) ∧ z.cell? ⟨g', off' + i * 13 + 2, none⟩ = some (.int .i64 v2.num) ∧ z.cell? ⟨g, off + i * 13 + 3, none⟩ = some (.float .f64 v.flt) ∧ z.cell? ⟨g', off' + i * 13 + 3, none⟩ = some (.float .f64 v2.flt) ∧ z.cell? ⟨g, off + i * 13 + 4, none⟩ = some (.string ⟨v.str.toArray⟩) ∧ z.cell? ⟨g', off' + i * 13 + 4, none⟩ = some (.string ⟨v2.str.toArray⟩) ∧ z.cell? ⟨g, off + i * 13 + 5, none⟩ = some (.slice pp v.names.length pc) ∧ z.cell? ⟨g', off' + i * 13 + 5, none⟩ = some (.slice pp2 v2.names.length pc2) ∧ z.cell? ⟨g, off + i * 13 + 6, none⟩ = some (.slice p' v.items.length cap) ∧ z.cell? ⟨g', off' + i * 13 + 6, none⟩ = some (.slice p2 v2.items.length cap2) ∧ z.cell? ⟨g, off + i * 13 + 7, none⟩ = some (.int .i64 v'.kind) ∧ z.cell? ⟨g', off' + i * 13 + 7, none⟩ = some (.int .i64 v2'.kind) ∧ z.cell? ⟨g, off + i * 13 + 8, none⟩ = some (.int .i64 v'.num) ∧ z.cell? ⟨g', off' + i * 13 + 8, none⟩ = some (.int .i64 v2'.num) ∧ z.cell? ⟨g, off + i * 13 + 9, none⟩ = some (.float .f64 v'.flt) ∧ z.cell? ⟨g', off' + i * 13 + 9, none⟩ = some (.float .f64 v2'.flt) ∧ z.cell? ⟨g, off + i * 13 + 10, none⟩ = some (.string ⟨v'.str.toArray⟩) ∧ z.cell? ⟨g', off' + i * 13 + 10, none⟩ = some (.string ⟨v2'.str.toArray⟩) ∧ z.cell? ⟨g, off + i * 13 + 11, none⟩ = some (.slice pq v'.names.length pd) ∧ z.cell? ⟨g', off' + i * 13 + 11, none⟩ = some (.slice pq2 v2'.names.length pd2) ∧ z.cell? ⟨g, off + i * 13 + 12, none⟩ = some (.slice p1 v'.items.length cap1) ∧ z.cell? ⟨g', off' + i * 13 + 12, none⟩ = some (.slice p3 v2'.items.length cap3) from by
                    have hz2 := HUw.out _ (below_tr' hb hz)
                    exact ⟨(hz.cell (p := ⟨H, 5, none⟩) (lt_of_block (HBl.out _ hb).1)).trans d3, (hz.cell (p := ⟨H + 1, 5, none⟩) (lt_of_block (HBl.out _ hb).2)).trans f3, (hz2.cell (p := ⟨g, off + i * 13, none⟩) hgl).trans (hcl 0 (by omega)), (hz2.cell (p := ⟨g', off' + i * 13, none⟩) hgl').trans (hcl' 0 (by omega)), (hz2.cell (p := ⟨g, off + i * 13 + 1, none⟩) hgl).trans (hcl 1 (by omega)), (hz2.cell (p := ⟨g', off' + i * 13 + 1, none⟩) hgl').trans (hcl' 1 (by omega)), (hz2.cell (p := ⟨g, off + i * 13 + 2, none⟩) hgl).trans (hcl 2 (by omega)), (hz2.cell (p := ⟨g', off' + i * 13 + 2, none⟩) hgl').trans (hcl' 2 (by omega)), (hz2.cell (p := ⟨g, off + i * 13 + 3, none⟩) hgl).trans (hcl 3 (by omega)), (hz2.cell (p := ⟨g', off' + i * 13 + 3, none⟩) hgl').trans (hcl' 3 (by omega)), (hz2.cell (p := ⟨g, off + i * 13 + 4, none⟩) hgl).trans (hcl 4 (by omega)), (hz2.cell (p := ⟨g', off' + i * 13 + 4, none⟩) hgl').trans (hcl' 4 (by omega)), (hz2.cell (p := ⟨g, off + i * 13 + 5, none⟩) hgl).trans (hcl 5 (by omega)), (hz2.cell (p := ⟨g', off' + i * 13 + 5, none⟩) hgl').trans (hcl' 5 (by omega)), (hz2.cell (p := ⟨g, off + i * 13 + 6, none⟩) hgl).trans (hcl 6 (by omega)), (hz2.cell (p := ⟨g', off' + i * 13 + 6, none⟩) hgl').trans (hcl' 6 (by omega)), (hz2.cell (p := ⟨g, off + i * 13 + 7, none⟩) hgl).trans (hcl 7 (by omega)), (hz2.cell (p := ⟨g', off' + i * 13 + 7, none⟩) hgl').trans (hcl' 7 (by omega)), (hz2.cell (p := ⟨g, off + i * 13 + 8, none⟩) hgl).trans (hcl 8 (by omega)), (hz2.cell (p := ⟨g', off' + i * 13 + 8, none⟩) hgl').trans (hcl' 8 (by omega)), (hz2.cell (p := ⟨g, off + i * 13 + 9, none⟩) hgl).trans (hcl 9 (by omega)), (hz2.cell (p := ⟨g', off' + i * 13 + 9, none⟩) hgl').trans (hcl' 9 (by omega)), (hz2.cell (p := ⟨g, off + i * 13 + 10, none⟩) hgl).trans (hcl 10 (by omega)), (hz2.cell (p := ⟨g', off' + i * 13 + 10, none⟩) hgl').trans (hcl' 10 (by omega)), (hz2.cell (p := ⟨g, off + i * 13 + 11, none⟩) hgl).trans (hcl 11 (by omega)), (hz2.cell (p := ⟨g', off' + i * 13 + 11, none⟩) hgl').trans (hcl' 11 (by omega)), (hz2.cell (p := ⟨g, off + i * 13 + 12, none⟩) hgl).trans (hcl 12 (by omega)), (hz2.cell (p := ⟨g', off' + i * 13 + 12, none⟩) hgl').trans (hcl' 12 (by omega))⟩))
                  clear HS hcv hc hit hit' hcl hcl' hv hv2 hcv' hv' hv2'
                  go_wp2_with fail
                  go_region_held3 (fun z => z.cell? ⟨H, 5, none⟩ = some (.slice (some ⟨g, off, none⟩) N3 c3) ∧ z.cell? ⟨H + 1, 5, none⟩ = some (.slice (some ⟨g', off', none⟩) N3 e3) ∧ z.cell? ⟨g, off + i * 13, none⟩ = some (.int .i64 a0) ∧ z.cell? ⟨g', off' + i * 13, none⟩ = some (.int .i64 a0) ∧ z.cell? ⟨g, off + i * 13 + 1, none⟩ = some (.int .i64 v.kind) ∧ z.cell? ⟨g', off' + i * 13 + 1, none⟩ = some (.int .i64 v2.kind) ∧ z.cell? ⟨g, off + i * 13 + 2, none⟩ = some (.int .i64 v.num) ∧ z.cell? ⟨g', off' + i * 13 + 2, none⟩ = some (.int .i64 v2.num) ∧ z.cell? ⟨g, off + i * 13 + 3, none⟩ = some (.float .f64 v.flt) ∧ z.cell? ⟨g', off' + i * 13 + 3, none⟩ = some (.float .f64 v2.flt) ∧ z.cell? ⟨g, off + i * 13 + 4, none⟩ = some (.string ⟨v.str.toArray⟩) ∧ z.cell? ⟨g', off' + i * 13 + 4, none⟩ = some (.string ⟨v2.str.toArray⟩) ∧ z.cell? ⟨g, off + i * 13 + 5, none⟩ = some (.slice pp v.names.length pc) ∧ z.cell? ⟨g', off' + i * 13 + 5, none⟩ = some (.slice pp2 v2.names.length pc2) ∧ z.cell? ⟨g, off + i * 13 + 6, none⟩ = some (.slice p' v.items.length cap) ∧ z.cell? ⟨g', off' + i * 13 + 6, none⟩ = some (.slice p2 v2.items.length cap2) ∧ z.cell? ⟨g, off + i * 13 + 7, none⟩ = some (.int .i64 v'.kind) ∧ z.cell? ⟨g', off' + i * 13 + 7, none⟩ = some (.int .i64 v2'.kind) ∧ z.cell? ⟨g, off + i * 13 + 8, none⟩ = some (.int .i64 v'.num) ∧ z.cell? ⟨g', off' + i * 13 + 8, none⟩ = some (.int .i64 v2'.num) ∧ z.cell? ⟨g, off + i * 13 + 9, none⟩ = some (.float .f64 v'.flt) ∧ z.cell? ⟨g', off' + i * 13 + 9, none⟩ = some (.float .f64 v2'.flt) ∧ z.cell? ⟨g, off + i * 13 + 10, none⟩ = some (.string ⟨v'.str.toArray⟩) ∧ z.cell? ⟨g', off' + i * 13 + 10, none⟩ = some (.string ⟨v2'.str.toArray⟩) ∧ z.cell? ⟨g, off + i * 13 + 11, none⟩ = some (.slice pq v'.names.length pd) ∧ z.cell? ⟨g', off' + i * 13 + 11, none⟩ = some (.slice pq2 v2'.names.length pd2) ∧ z.cell? ⟨g, off + i * 13 + 12, none⟩ = some (.slice p1 v'.items.length cap1) ∧ z.cell? ⟨g', off' + i * 13 + 12, none⟩ = some (.slice p3 v2'.items.length cap3)) (first | with_reducible exact HK.out _ ((Below.refl _ _).drew) | with_reducible exact HK.out _ hq3 | with_reducible exact HK.out _ (below_tr' hq3 hb4) | go_keep) (first | (go_at_call 26; (with_reducible refine (HSS.out).mono ?_); rintro e w3 ⟨rfl, hb3⟩; have hq3 := undrew hb3) | (go_at_call 26; (with_reducible refine (HT.out w3 (HUv.out _ (below_tr' hb hq3))).mono ?_); rintro e w4 ⟨rfl, hb4⟩))
                  replace hb4 := below_tr' hq3 hb4
                  go_wp2_with fail
                  go_roundw
                  case rel => exact ⟨i + 1, by go_num, by omega, below_tr' hb hb4⟩
                  case measure => simp [intOf]; omega
                · have t0 : decide ((i : Int) < (N3 : Int)) = false := by simp; omega
                  have hw4 := hb
                  clear hb f3
                  generalize wr = W4 at *
                  go_wp2_with fail
                  go_ret
                  exact ⟨rfl, by rw [HH.out]; exact HFin.out.trans (hw4.mono (by have := HFin.out.size; rw [HH.out] at this; exact this))⟩
end Go.Proofs.YtnaamiecljinnaaGreat
