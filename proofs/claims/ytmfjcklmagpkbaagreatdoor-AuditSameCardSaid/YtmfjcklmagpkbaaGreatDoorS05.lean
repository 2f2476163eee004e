/-
  Dc in one text.
-/
import Derived.Below
import Derived.BigQuiet
import Derived.ChangeArms
import Derived.DataReads
import Derived.Deep.AppendLies
import Derived.Deep.AppendSrc
import Derived.Deep.Cut
import Derived.Deep.DeepCutAuto
import Derived.Deep.QuietTactic
import Derived.Deep.RegionHeld3
import Derived.Deep.RegionWith
import Derived.Defers
import Derived.Handy
import Derived.IntWalk
import Derived.Laws.Bits64b
import Derived.Laws.FloatBits
import Derived.Lib.AtoiAll
import Derived.Lib.Builder
import Derived.Lib.Bytealg
import Derived.Lib.Bytes
import Derived.Lib.ConvBytes
import Derived.Lib.FrozenHead2
import Derived.Lib.Hide
import Derived.Lib.IndexMore
import Derived.Lib.ItoaNum
import Derived.Lib.MinMax
import Derived.Lib.OthersKept
import Derived.Lib.ParseIntB
import Derived.Lib.UnsafeStr
import Derived.LoopTactic
import Derived.OneCell
import Derived.OwnWalk
import Derived.Recover
import Derived.RegionTactic
import Derived.Shelf.Abstract
import Derived.SizedLaws
import Derived.StillTailTactics
import Derived.Tactics
import Derived.Tactics2
import Derived.Test.YtmfjcklmagpkbaaGreatDoorChecked
import Derived.Test.YtmfjcklmagpkbaaGreatDoorEvK
import Derived.WalkKit
import Derived.WalkLawsBesides
import Derived.WalkSpells
import Derived.WideShapes
import Ieee.Arith
import Derived.Test.YtmfjcklmagpkbaaGreatDoorS00
import Derived.Test.YtmfjcklmagpkbaaGreatDoorS01
import Derived.Test.YtmfjcklmagpkbaaGreatDoorS02
import Derived.Test.YtmfjcklmagpkbaaGreatDoorS04
namespace Go.Proofs.YtmfjcklmagpkbaaGreatDoor
open Go.RowKit
set_option maxRecDepth 100000 in
set_option maxHeartbeats 4000000 in
theorem auditSame_off (u v : Option Addr) (N M cu cv : Nat) (w : World) (h : ¬ (N ≤ 40 ∧ M ≤ 40)) : Calls Tryz.prog 5 #[.slice u N cu, .slice v M cv] w (Gave (.bool true) w) := by
  have HA := Lib.hid awake23
  by_cases hN : N ≤ 40
  · have t1 : decide ((40 : Int) < (N : Int)) = false := by simp; omega
    have t2 : decide ((40 : Int) < (M : Int)) = true := by simp; omega
    clear h hN
    go_enter Tryz.func5, Tryz.ntmps5
    go_wp2_with fail
    refine (HA.out _).mono ?_; rintro e w1 ⟨rfl, b1⟩
    go_wp2_with fail
    refine (HA.out _).mono ?_; rintro e w2 ⟨rfl, b2⟩
    go_wp2_with fail
    go_ret
    exact ⟨rfl, below_tr' b1 b2⟩
  · have t1 : decide ((40 : Int) < (N : Int)) = true := by simp; omega
    clear h hN
    go_enter Tryz.func5, Tryz.ntmps5
    go_wp2_with fail
    refine (HA.out _).mono ?_; rintro e w1 ⟨rfl, b1⟩
    go_wp2_with fail
    refine (HA.out _).mono ?_; rintro e w2 ⟨rfl, b2⟩
    go_wp2_with fail
    go_ret
    exact ⟨rfl, below_tr' b1 b2⟩
set_option maxRecDepth 100000 in
set_option maxHeartbeats 4000000 in
theorem auditSame_on (d d2 : Nat) (l m : List VT) (va vb : Value) (w : World) (ha : Vls w d l va) (hb : Vls w d2 m vb) (hl : l.length ≤ 40) (hm : m.length ≤ 40) : Calls Tryz.prog 5 #[va, vb] w (Gave (.bool true) w) := by
  have hsf : ∀ (a : Addr) (x : Nat) (m : Mode) (w : World), (store a (.float .f64 x) m).run Tryz.prog w = stored Tryz.prog w a (.float .f64 x) m := fun a x m w => run_store _ w a _ m rfl
  have HA := Lib.hid awake23
  have HVA := Lib.hid (fun x (hx : Below w.heap.size w x) => ha.kept hx)
  have HVB := Lib.hid (fun x (hx : Below w.heap.size w x) => hb.kept hx)
  obtain ⟨pa, ca, rfl, la, ia⟩ := ha
  obtain ⟨pb, cb, rfl, lb, ib⟩ := hb
  have HS1 := Lib.hid (fun x (hx : Below w.heap.size w x) => by
    obtain ⟨p, c, e, _, i1⟩ := HVA.out x hx
    obtain ⟨p', c', e', _, i2⟩ := HVB.out x hx
    have := aSame_any d d2 l m p p' c c' x la i1 i2
    rwa [← e, ← e'] at this)
  have HS2 := Lib.hid (fun x (hx : Below w.heap.size w x) => by
    obtain ⟨p, c, e, _, i1⟩ := HVA.out x hx
    obtain ⟨p', c', e', _, i2⟩ := HVB.out x hx
    have := r20Same_any d d2 l m p p' c c' x la i1 i2
    rwa [← e, ← e'] at this)
  have HS3 := Lib.hid (fun x (hx : Below w.heap.size w x) => by
    obtain ⟨p, c, e, _, i1⟩ := HVA.out x hx
    have := aSame_any d d l l p p c c x la i1 i1
    rwa [← e, sameL_self] at this)
  clear ia ib
  generalize sameL l m = R at *
  have t1 : decide ((40 : Int) < (l.length : Int)) = false := by simp; omega
  have t2 : decide ((40 : Int) < (m.length : Int)) = false := by simp; omega
  go_enter Tryz.func5, Tryz.ntmps5
  go_wp2_with fail
  refine (HA.out _).mono ?_; rintro e w1 ⟨rfl, b1⟩
  have HO := Lib.hid (World.ownsRow_made (base := w1.heap.size) (e := 28) (size := 6) w1 #[] 0 (Nat.le_refl _) (by unfold maxLen; omega) rfl)
  have HB0 := Lib.hid ((Below.refl w1.heap.size w1).alloc (Nat.le_refl _) (.cells #[] 28))
  have HV1 := Lib.hid (HVA.out w1 b1)
  have HV2 := Lib.hid (HVB.out w1 b1)
  go_wp2_with (at_builtin; first
    | (refine wpList_vappend rfl _ _ rfl (w0 := w1) rfl rfl HB0.out HV1.out HO.out (by omega) ?_; intro g1 c1 w2 ys1 own1 bb1 got1)
    | (rw [Nat.zero_add] at own1; refine wpList_vappend rfl _ _ rfl (w0 := w1) rfl rfl bb1 HV2.out own1 (by omega) ?_; intro g2 c2 w3 ys2 own2 bb2 got2))
  have GOT := ((GotV.nil w1).append got1).append got2
  have HIT := Lib.hid (fun i hi x hx => got_item own2 GOT (by simp) (x := x) hx (i := i) hi)
  clear GOT got1 got2 own2 own1 bb1 HO HB0 HV1 HV2
  clear t1 t2
  generalize l.length = L at *
  generalize m.length = M at *
  have b3 : Below w.heap.size w w3 := below_tr' b1 bb2
  have hB0 := Below.refl w3.heap.size w3
  go_loopw [26] (fun iv wr => ∃ i : Nat, iv = .int .i64 (i : Int) ∧ i ≤ L + M ∧ Below w3.heap.size w3 wr) (fun iv _ => L + M - (intOf iv).toNat)
  case atStart => exact ⟨0, rfl, Nat.zero_le _, hB0⟩
  case round =>
    clear hB0
    obtain ⟨i, rfl, hi, hB⟩ := hrel
    by_cases hlt : i < L + M
    · have t0 : decide ((i : Int) < (L : Int) + (M : Int)) = true := by simp; omega
      obtain ⟨d3, ds, hva, hc⟩ := HIT.out i hlt wr hB
      replace hva := hva.kept (bb2.trans (hB.mono bb2.size))
      generalize (([] ++ l ++ m : List VT)).getD i noVT = va at *
      obtain ⟨q1, r1, s1, v1, rfl⟩ := hva.sixS
      have x0 := hc 0 (by omega); have x1 := hc 1 (by omega); have x2 := hc 2 (by omega); have x3 := hc 3 (by omega); have x4 := hc 4 (by omega); have x5 := hc 5 (by omega)
      clear hc
      simp at x0 x1 x2 x3 x4 x5
      have i1 : (0 : Int) ≤ (i : Int) := by omega
      have i2 : (i : Int) < (L : Int) + (M : Int) := by omega
      have HVV := Lib.hid hva; clear hva
      go_upto_region 6 with (fail)
      have hg1 := heap_alloc_new wr (.cells #[.int .i64 va.kind, .int .i64 va.num, .float .f64 va.flt, .string ⟨va.str.toArray⟩, .slice q1 va.names.length r1, .slice s1 va.items.length v1] 28)
      have hA1 : Below wr.heap.size wr (wr.alloc (.cells #[.int .i64 va.kind, .int .i64 va.num, .float .f64 va.flt, .string ⟨va.str.toArray⟩, .slice q1 va.names.length r1, .slice s1 va.items.length v1] 28)) := (Below.refl _ _).alloc (Nat.le_refl _) _
      generalize wr.alloc (.cells #[.int .i64 va.kind, .int .i64 va.num, .float .f64 va.flt, .string ⟨va.str.toArray⟩, .slice q1 va.names.length r1, .slice s1 va.items.length v1] 28) = W1 at *
      clear x0 x1 x2 x3 x4 x5
      have hb1 := below_tr' hB hA1
      have HSm := Lib.hid (rsmall_any _ _ _ W1 (HVV.out.kept hA1))
      clear hA1 HVV
      generalize wr.heap.size = H1 at *
      have a0 : W1.cell? ⟨H1, 0, none⟩ = some (.int .i64 va.kind) := by rw [Lib.cell_of_heap hg1]; rfl
      have a1 : W1.cell? ⟨H1, 1, none⟩ = some (.int .i64 va.num) := by rw [Lib.cell_of_heap hg1]; rfl
      have a2 : W1.cell? ⟨H1, 2, none⟩ = some (.float .f64 va.flt) := by rw [Lib.cell_of_heap hg1]; rfl
      have a3 : W1.cell? ⟨H1, 3, none⟩ = some (.string ⟨va.str.toArray⟩) := by rw [Lib.cell_of_heap hg1]; rfl
      have a4 : W1.cell? ⟨H1, 4, none⟩ = some (.slice q1 va.names.length r1) := by rw [Lib.cell_of_heap hg1]; rfl
      have a5 : W1.cell? ⟨H1, 5, none⟩ = some (.slice s1 va.items.length v1) := by rw [Lib.cell_of_heap hg1]; rfl
      clear hg1
      cases hsm : smallB va with
      | true =>
        rw [hsm] at HSm
        go_wp2_with fail
        refine (HSm.out).mono ?_; rintro e w4 ⟨rfl, hb4⟩
        go_wp2_with fail
        go_roundw
        case rel => exact ⟨i + 1, by go_num, by omega, below_tr' hb1 hb4⟩
        case measure => simp [intOf]; omega
      | false =>
        rw [hsm] at HSm
        go_wp2_with fail
        refine (HSm.out).mono ?_; rintro e w4 ⟨rfl, hb4⟩
        go_wp2_with fail
        go_ret
        exact ⟨rfl, below_tr' b3 (below_tr' hb1 hb4)⟩
    · have t0 : decide ((i : Int) < (L : Int) + (M : Int)) = false := by simp; omega
      have b4 := below_tr' b3 hB
      go_wp2_with fail
      refine (HS1.out _ b4).mono ?_; rintro e w5 ⟨rfl, hb5⟩
      have b5 := below_tr' b4 hb5
      go_wp2_with fail
      refine (HS2.out _ b5).mono ?_; rintro e w6 ⟨rfl, hb6⟩
      have b6 := below_tr' b5 hb6
      have tr : (R == R) = true := by simp
      go_wp2_with fail
      refine (HS3.out _ b6).mono ?_; rintro e w7 ⟨rfl, hb7⟩
      go_wp2_with fail
      go_ret
      exact ⟨rfl, below_tr' b6 hb7⟩
theorem auditSame_any (d d2 : Nat) (l m : List VT) (va vb : Value) (w : World) (ha : Vls w d l va) (hb : Vls w d2 m vb) : Calls Tryz.prog 5 #[va, vb] w (Gave (.bool true) w) := by
  by_cases h : l.length ≤ 40 ∧ m.length ≤ 40
  · exact auditSame_on d d2 l m va vb w ha hb h.1 h.2
  · obtain ⟨_, _, rfl, _⟩ := ha
    obtain ⟨_, _, rfl, _⟩ := hb
    exact auditSame_off _ _ _ _ _ _ w h
theorem auditSame_law (d : Nat) (l : List VT) (va : Value) (d2 : Nat) (m : List VT) (vb : Value) (w : World) (ha : Vls w d l va) (hb : Vls w d2 m vb) : Calls Tryz.prog 5 #[va, vb] w (Gave (.bool true) w) := auditSame_any d d2 l m va vb w ha hb
end Go.Proofs.YtmfjcklmagpkbaaGreatDoor
