/-
  Z1, Z2 in one text.
-/
import Derived.Below
import Derived.BigQuiet
import Derived.Deep.AppendLies
import Derived.Deep.Cut
import Derived.Deep.CutBlock
import Derived.Deep.DeepCutAuto
import Derived.Deep.QuietTactic
import Derived.Deep.RegionHeld3
import Derived.Deep.RegionLaw
import Derived.Deep.RegionWith
import Derived.Defers
import Derived.Handy
import Derived.IntWalk
import Derived.Laws.Bits64b
import Derived.Laws.FloatBits
import Derived.Lib.AtoiAll
import Derived.Lib.Builder
import Derived.Lib.Bytes
import Derived.Lib.ConvBytes
import Derived.Lib.FrozenHead2
import Derived.Lib.Hide
import Derived.Lib.IndexMore
import Derived.Lib.ItoaNum
import Derived.Lib.MinMax
import Derived.Lib.OthersKept
import Derived.Lib.ParseIntB
import Derived.Lib.UnsafeStr
import Derived.LoopTactic
import Derived.OneCell
import Derived.OwnWalk
import Derived.Recover
import Derived.RegionTactic
import Derived.Shelf.Abstract
import Derived.StillTailTactics
import Derived.Tactics
import Derived.Tactics2
import Derived.Test.YtnaamiecljinnaaGreatChecked
import Derived.WalkKit
import Derived.WalkLawsBesides
import Derived.WalkSpells
import Ieee.Arith
import Derived.Test.YtnaamiecljinnaaGreatS00
import Derived.Test.YtnaamiecljinnaaGreatS02
import Derived.Test.YtnaamiecljinnaaGreatS03
import Derived.Test.YtnaamiecljinnaaGreatS08
import Derived.Test.YtnaamiecljinnaaGreatS09
import Derived.Test.YtnaamiecljinnaaGreatS10
import Derived.Test.YtnaamiecljinnaaGreatS12
import Derived.Test.YtnaamiecljinnaaGreatS14
namespace Go.Proofs.YtnaamiecljinnaaGreat
section
open Go.RowKit
/-- what a call that reads a value leaves -/
def SvPost (b : Nat) (s : ByteArray) (w : World) (r : Option (VT × List UInt8)) (e : Ending) (w' : World) : Prop :=
  match r with
  | some v => ∃ cs, e = .returned (.agg cs) ∧ ValIn (fun g => w.heap.size ≤ g) w' 12 v.1 cs ∧ SrL b s v.2 w' ∧ Fr [b] w w'
  | none => e = gave 5 ∧ Fr [b] w w'
theorem rdVal_suf {l t : List UInt8} {v : VT} (h : rdVal l = some (v, t)) : ∃ j, t = l.drop j := ⟨(encV v).length, by rw [(rdVal_dec h).1, List.drop_append_of_le_length (Nat.le_refl _)]; simp⟩
set_option maxRecDepth 100000 in
set_option maxHeartbeats 1000000 in
theorem svalL (s : ByteArray) (hs : s.size ≤ 100000000) (b : Nat) (l : List UInt8) (w : World) (hb : SrL b s l w) :
    Calls Tryz.prog 52 #[.pointer (some ⟨b, 0, none⟩)] w (SvPost b s w (rdVal l)) := by
  have hsf : ∀ (a : Addr) (x : Nat) (m : Mode) (w : World), (store a (.float .f64 x) m).run Tryz.prog w = stored Tryz.prog w a (.float .f64 x) m := fun a x m w => run_store _ w a _ m rfl
  have hR := fun w => ReadValue_any s hs (s.size - l.length) (Nat.sub_le _ _) w
  rw [hb.1.back] at hR
  have hend := fun v t (h : rdVal l = some (v, t)) => (show EndOf s t by obtain ⟨j, rfl⟩ := rdVal_suf h; exact hb.1.drop j)
  have hb1 := hb.2
  have hbl := hb.lt
  generalize s.size - l.length = k at *
  clear hb
  have HR := Lib.hid hR; clear hR
  have HMy := Lib.hid must_yes
  have HMn := Lib.hid must_no
  have hA := (Fr.refl [b] w).alloc (.cells #[.int .i64 0, .int .i64 0, .float .f64 0, .string ⟨#[]⟩, .slice none 0 0, .slice none 0 0] 57)
  have hgA : (w.alloc (.cells #[.int .i64 0, .int .i64 0, .float .f64 0, .string ⟨#[]⟩, .slice none 0 0, .slice none 0 0] 57)).heap[w.heap.size]? = some (.cells #[.int .i64 0, .int .i64 0, .float .f64 0, .string ⟨#[]⟩, .slice none 0 0, .slice none 0 0] 57 (0, 0)) := heap_alloc_new w _
  have hb0 : SrB b s k (w.alloc (.cells #[.int .i64 0, .int .i64 0, .float .f64 0, .string ⟨#[]⟩, .slice none 0 0, .slice none 0 0] 57)) := hb1.below ((Below.refl _ _).alloc (Nat.le_refl _) _)
  have hszA : (w.alloc (.cells #[.int .i64 0, .int .i64 0, .float .f64 0, .string ⟨#[]⟩, .slice none 0 0, .slice none 0 0] 57)).heap.size = w.heap.size + 1 := by simp
  clear hb1
  generalize hW0 : w.alloc (.cells #[.int .i64 0, .int .i64 0, .float .f64 0, .string ⟨#[]⟩, .slice none 0 0, .slice none 0 0] 57) = W0 at *
  generalize hG : w.heap.size = G at *
  have HW0 := Lib.hid hW0; have HG := Lib.hid hG
  clear hW0 hG
  have HBb := Lib.hid (fun w' (h : Below W0.heap.size W0 w') => hb0.below h)
  have HGb := Lib.hid (fun w' (h : Below W0.heap.size W0 w') => (h.block G (by omega)).trans hgA)
  have c0 := hb0.c0; have c1 := hb0.c1
  have hbG : b ≠ G := by omega
  clear hgA
  have HSZ := Lib.hid hszA; clear hszA
  have hA0 : Below W0.heap.size W0 (W0.alloc (.cells #[.int .i64 0, .int .i64 0, .float .f64 0, .string ⟨#[]⟩, .slice none 0 0, .slice none 0 0] 57)) := (Below.refl _ _).alloc (Nat.le_refl _) _
  have c0a := (World.cell?_alloc_some W0 _ (.cells #[.int .i64 0, .int .i64 0, .float .f64 0, .string ⟨#[]⟩, .slice none 0 0, .slice none 0 0] 57) (by rw [c0]; rfl)).trans c0
  have c1a := (World.cell?_alloc_some W0 _ (.cells #[.int .i64 0, .int .i64 0, .float .f64 0, .string ⟨#[]⟩, .slice none 0 0, .slice none 0 0] 57) (by rw [c1]; rfl)).trans c1
  generalize rdVal l = r at *
  have HRR := HR.out
  cases r with
  | none =>
    have HRR := Lib.hid HRR
    go_enter Tryz.func52, Tryz.ntmps52
    go_wp2_with fail
    rw [HW0.out, HG.out]
    go_region_held3 (fun w' => w'.cell? ⟨b, 0, none⟩ = some (.string s) ∧ w'.cell? ⟨b, 1, none⟩ = some (.int .i64 (k : Int))) (first | with_reducible exact ⟨c0, c1⟩ | with_reducible exact ⟨c0a, c1a⟩ | with_reducible exact ⟨(HBb.out _ hq1).c0, (HBb.out _ hq1).c1⟩ | with_reducible exact ⟨(HBb.out _ (hq1.alloc hq1.size _)).c0, (HBb.out _ (hq1.alloc hq1.size _)).c1⟩ | with_reducible exact ⟨(HBb.out _ (hA0.drew)).c0, (HBb.out _ (hA0.drew)).c1⟩ | with_reducible exact ⟨(HBb.out _ ((((((hq1.setCell (p := ⟨W0.heap.size, 0, none⟩) (Nat.le_refl _) _).setCell (p := ⟨W0.heap.size, 1, none⟩) (Nat.le_refl _) _).setCell (p := ⟨W0.heap.size, 2, none⟩) (Nat.le_refl _) _).setCell (p := ⟨W0.heap.size, 3, none⟩) (Nat.le_refl _) _).setCell (p := ⟨W0.heap.size, 4, none⟩) (Nat.le_refl _) _).setCell (p := ⟨W0.heap.size, 5, none⟩) (Nat.le_refl _) _)).c0, (HBb.out _ ((((((hq1.setCell (p := ⟨W0.heap.size, 0, none⟩) (Nat.le_refl _) _).setCell (p := ⟨W0.heap.size, 1, none⟩) (Nat.le_refl _) _).setCell (p := ⟨W0.heap.size, 2, none⟩) (Nat.le_refl _) _).setCell (p := ⟨W0.heap.size, 3, none⟩) (Nat.le_refl _) _).setCell (p := ⟨W0.heap.size, 4, none⟩) (Nat.le_refl _) _).setCell (p := ⟨W0.heap.size, 5, none⟩) (Nat.le_refl _) _)).c1⟩ | go_keep) ((first | (go_at_call 80; (with_reducible refine (HRR.out (W0.alloc (.cells #[.int .i64 0, .int .i64 0, .float .f64 0, .string ⟨#[]⟩, .slice none 0 0, .slice none 0 0] 57)).drew).mono ?_); rintro e w1 ⟨⟨x, hx, rfl⟩, hb1⟩; have hq1 := (hA0.drew).trans (hb1.mono hA0.size); have n1 := (hb1.block W0.heap.size (by simp)).trans (heap_alloc_new W0 _); have x0 := Lib.cell_of_heap n1 0; have x1 := Lib.cell_of_heap n1 1; have x2 := Lib.cell_of_heap n1 2; have x3 := Lib.cell_of_heap n1 3; have x4 := Lib.cell_of_heap n1 4; have x5 := Lib.cell_of_heap n1 5; have u0 := Lib.frozen_of_heap n1 0; have u1 := Lib.frozen_of_heap n1 1; have u2 := Lib.frozen_of_heap n1 2; have u3 := Lib.frozen_of_heap n1 3; have u4 := Lib.frozen_of_heap n1 4; have u5 := Lib.frozen_of_heap n1 5; simp at x0 x1 x2 x3 x4 x5) | (go_at_call 80; (with_reducible refine (HRR.out W0.drew).mono ?_); rintro e w1 ⟨⟨x, hx, rfl⟩, hb1⟩; have hq1 := undrew hb1)))
    all_goals have tx : (x == 0) = false := beq_eq_false_iff_ne.2 hx
    all_goals clear hx
    all_goals go_wp2_with fail
    all_goals (refine (HMn.out _).mono ?_; rintro e w2 ⟨rfl, rfl⟩; go_wp2_with fail; exact ⟨rfl, rfl, hA.trans (Fr.of_below (by first | with_reducible exact hq1.alloc hq1.size _ | with_reducible exact ((((((hq1.setCell (p := ⟨W0.heap.size, 0, none⟩) (Nat.le_refl _) _).setCell (p := ⟨W0.heap.size, 1, none⟩) (Nat.le_refl _) _).setCell (p := ⟨W0.heap.size, 2, none⟩) (Nat.le_refl _) _).setCell (p := ⟨W0.heap.size, 3, none⟩) (Nat.le_refl _) _).setCell (p := ⟨W0.heap.size, 4, none⟩) (Nat.le_refl _) _).setCell (p := ⟨W0.heap.size, 5, none⟩) (Nat.le_refl _) _)))⟩)
  | some r =>
    obtain ⟨v, l'⟩ := r
    have hle : s.size - l'.length ≤ s.size := Nat.sub_le _ _
    have hel := hend v l' rfl
    generalize hk2 : s.size - l'.length = k2 at *
    have HK2 := Lib.hid hk2; clear hk2 hend
    have HRR := Lib.hid (fun w => (HRR w).mono fun e w' (h : RvalPost s (some (v, l')) w e w') => (show ∃ cs, e = .returned (.tuple #[.agg cs, .int .i64 (k2 : Int), .int .i64 0]) ∧ ValIn (fun g => w.heap.size ≤ g) w' 12 v cs ∧ Below w.heap.size w w' from by
      unfold RvalPost at h; dsimp only at h
      obtain ⟨cs, h1, h2, h3⟩ := h
      exact ⟨cs, by rw [h1, HK2.out], h2, h3⟩))
    go_enter Tryz.func52, Tryz.ntmps52
    go_wp2_with fail
    rw [HW0.out, HG.out]
    go_region_held3 (fun w' => w'.cell? ⟨b, 0, none⟩ = some (.string s) ∧ w'.cell? ⟨b, 1, none⟩ = some (.int .i64 (k : Int))) (first | with_reducible exact ⟨c0, c1⟩ | with_reducible exact ⟨c0a, c1a⟩ | with_reducible exact ⟨(HBb.out _ hq1).c0, (HBb.out _ hq1).c1⟩ | with_reducible exact ⟨(HBb.out _ (hq1.alloc hq1.size _)).c0, (HBb.out _ (hq1.alloc hq1.size _)).c1⟩ | with_reducible exact ⟨(HBb.out _ (hA0.drew)).c0, (HBb.out _ (hA0.drew)).c1⟩ | with_reducible exact ⟨(HBb.out _ ((((((hq1.setCell (p := ⟨W0.heap.size, 0, none⟩) (Nat.le_refl _) _).setCell (p := ⟨W0.heap.size, 1, none⟩) (Nat.le_refl _) _).setCell (p := ⟨W0.heap.size, 2, none⟩) (Nat.le_refl _) _).setCell (p := ⟨W0.heap.size, 3, none⟩) (Nat.le_refl _) _).setCell (p := ⟨W0.heap.size, 4, none⟩) (Nat.le_refl _) _).setCell (p := ⟨W0.heap.size, 5, none⟩) (Nat.le_refl _) _)).c0, (HBb.out _ ((((((hq1.setCell (p := ⟨W0.heap.size, 0, none⟩) (Nat.le_refl _) _).setCell (p := ⟨W0.heap.size, 1, none⟩) (Nat.le_refl _) _).setCell (p := ⟨W0.heap.size, 2, none⟩) (Nat.le_refl _) _).setCell (p := ⟨W0.heap.size, 3, none⟩) (Nat.le_refl _) _).setCell (p := ⟨W0.heap.size, 4, none⟩) (Nat.le_refl _) _).setCell (p := ⟨W0.heap.size, 5, none⟩) (Nat.le_refl _) _)).c1⟩ | go_keep) ((first | (go_at_call 80; (with_reducible refine (HRR.out (W0.alloc (.cells #[.int .i64 0, .int .i64 0, .float .f64 0, .string ⟨#[]⟩, .slice none 0 0, .slice none 0 0] 57)).drew).mono ?_); rintro e w1 ⟨cs, rfl, hv1, hb1⟩; obtain ⟨na, nl, nc, ia, il, ic, rfl⟩ := hv1.six; have hq1 := (hA0.drew).trans (hb1.mono hA0.size); have n1 := (hb1.block W0.heap.size (by simp)).trans (heap_alloc_new W0 _); have x0 := Lib.cell_of_heap n1 0; have x1 := Lib.cell_of_heap n1 1; have x2 := Lib.cell_of_heap n1 2; have x3 := Lib.cell_of_heap n1 3; have x4 := Lib.cell_of_heap n1 4; have x5 := Lib.cell_of_heap n1 5; have u0 := Lib.frozen_of_heap n1 0; have u1 := Lib.frozen_of_heap n1 1; have u2 := Lib.frozen_of_heap n1 2; have u3 := Lib.frozen_of_heap n1 3; have u4 := Lib.frozen_of_heap n1 4; have u5 := Lib.frozen_of_heap n1 5; simp at x0 x1 x2 x3 x4 x5) | (go_at_call 80; (with_reducible refine (HRR.out W0.drew).mono ?_); rintro e w1 ⟨cs, rfl, hv1, hb1⟩; obtain ⟨na, nl, nc, ia, il, ic, rfl⟩ := hv1.six; have hq1 := undrew hb1)))
    all_goals go_wp2_with fail
    · skip
      have hQ : (w1.alloc (.cells #[.int .i64 v.kind, .int .i64 v.num, .float .f64 v.flt, .string ⟨v.str.toArray⟩, .slice na nl nc, .slice ia il ic] 57)).heap[w1.heap.size]? = some (.cells #[.int .i64 v.kind, .int .i64 v.num, .float .f64 v.flt, .string ⟨v.str.toArray⟩, .slice na nl nc, .slice ia il ic] 57 (0, 0)) := heap_alloc_new w1 _
      have FA := (Fr.refl [] w1).alloc (.cells #[.int .i64 v.kind, .int .i64 v.num, .float .f64 v.flt, .string ⟨v.str.toArray⟩, .slice na nl nc, .slice ia il ic] 57)
      have hX0 : Below W0.heap.size W0 (w1.alloc (.cells #[.int .i64 v.kind, .int .i64 v.num, .float .f64 v.flt, .string ⟨v.str.toArray⟩, .slice na nl nc, .slice ia il ic] 57)) := hq1.alloc hq1.size _
      have hvX : ValIn (fun g => W0.heap.size ≤ g ∧ g ≠ w1.heap.size) (w1.alloc (.cells #[.int .i64 v.kind, .int .i64 v.num, .float .f64 v.flt, .string ⟨v.str.toArray⟩, .slice na nl nc, .slice ia il ic] 57)) 12 v #[.int .i64 v.kind, .int .i64 v.num, .float .f64 v.flt, .string ⟨v.str.toArray⟩, .slice na nl nc, .slice ia il ic] := hv1.kept FA.size fun g h1 h2 => by
        have h1 : W0.heap.size ≤ g := by simpa using h1
        exact ⟨⟨by omega, by omega⟩, FA.block g h2 (by simp)⟩
      have hQW : W0.heap.size ≤ w1.heap.size := hq1.size
      clear FA hv1 hb1 hq1
      generalize w1.alloc (.cells #[.int .i64 v.kind, .int .i64 v.num, .float .f64 v.flt, .string ⟨v.str.toArray⟩, .slice na nl nc, .slice ia il ic] 57) = X at *
      refine (HMy.out _).mono ?_; rintro e w2 ⟨rfl, rfl⟩
      have hbX := HBb.out _ hX0
      have hgX := HGb.out _ hX0
      have hW := HSZ.out
      have d1 := hbX.c1; have f1 := hbX.fz 1
      have hb2 : SrB b s k2 (X.setCell ⟨b, 1, none⟩ (.int .i64 (k2 : Int))) := hbX.put1 k2
      have F2 := (Fr.refl [b] X).setCell (l := [b]) ⟨b, 1, none⟩ (by simp) (.int .i64 (k2 : Int))
      have hg2 := F2.at hgX (by simp; omega)
      have hQ2 := F2.at hQ (by simp; omega)
      have hv2 := hvX.fr F2 (fun g hg hn => by simp at hg; have := hn.1; omega)
      have A2 := (hA.trans (Fr.of_below (l := [b]) hX0)).trans F2
      clear hW
      go_upto_region 4 with (fail)
      clear d1 f1 hbX hgX hQ hvX F2
      generalize X.setCell ⟨b, 1, none⟩ (.int .i64 (k2 : Int)) = X0 at *
      have d0 : X0.cell? ⟨w1.heap.size, 0, none⟩ = some (.int .i64 v.kind) := by rw [Lib.cell_of_heap hQ2]; rfl
      have d1 : X0.cell? ⟨w1.heap.size, 1, none⟩ = some (.int .i64 v.num) := by rw [Lib.cell_of_heap hQ2]; rfl
      have d2 : X0.cell? ⟨w1.heap.size, 2, none⟩ = some (.float .f64 v.flt) := by rw [Lib.cell_of_heap hQ2]; rfl
      have d3 : X0.cell? ⟨w1.heap.size, 3, none⟩ = some (.string ⟨v.str.toArray⟩) := by rw [Lib.cell_of_heap hQ2]; rfl
      have d4 : X0.cell? ⟨w1.heap.size, 4, none⟩ = some (.slice na nl nc) := by rw [Lib.cell_of_heap hQ2]; rfl
      have d5 : X0.cell? ⟨w1.heap.size, 5, none⟩ = some (.slice ia il ic) := by rw [Lib.cell_of_heap hQ2]; rfl
      have e0 : X0.cell? ⟨G, 0, none⟩ = some (.int .i64 0) := by rw [Lib.cell_of_heap hg2]; rfl
      have z0 : X0.frozen? ⟨G, 0, none⟩ = false := Lib.frozen_of_heap hg2 0
      have e1 : X0.cell? ⟨G, 1, none⟩ = some (.int .i64 0) := by rw [Lib.cell_of_heap hg2]; rfl
      have z1 : X0.frozen? ⟨G, 1, none⟩ = false := Lib.frozen_of_heap hg2 1
      have e2 : X0.cell? ⟨G, 2, none⟩ = some (.float .f64 0) := by rw [Lib.cell_of_heap hg2]; rfl
      have z2 : X0.frozen? ⟨G, 2, none⟩ = false := Lib.frozen_of_heap hg2 2
      have e3 : X0.cell? ⟨G, 3, none⟩ = some (.string ⟨#[]⟩) := by rw [Lib.cell_of_heap hg2]; rfl
      have z3 : X0.frozen? ⟨G, 3, none⟩ = false := Lib.frozen_of_heap hg2 3
      have e4 : X0.cell? ⟨G, 4, none⟩ = some (.slice none 0 0) := by rw [Lib.cell_of_heap hg2]; rfl
      have z4 : X0.frozen? ⟨G, 4, none⟩ = false := Lib.frozen_of_heap hg2 4
      have e5 : X0.cell? ⟨G, 5, none⟩ = some (.slice none 0 0) := by rw [Lib.cell_of_heap hg2]; rfl
      have z5 : X0.frozen? ⟨G, 5, none⟩ = false := Lib.frozen_of_heap hg2 5
      go_wp2_with fail
      have hgF : (((((((X0).setCell ⟨G, 0, none⟩ (.int .i64 v.kind)).setCell ⟨G, 1, none⟩ (.int .i64 v.num)).setCell ⟨G, 2, none⟩ (.float .f64 v.flt)).setCell ⟨G, 3, none⟩ (.string ⟨v.str.toArray⟩)).setCell ⟨G, 4, none⟩ (.slice na nl nc)).setCell ⟨G, 5, none⟩ (.slice ia il ic)).heap[G]? = some (.cells #[.int .i64 v.kind, .int .i64 v.num, .float .f64 v.flt, .string ⟨v.str.toArray⟩, .slice na nl nc, .slice ia il ic] 57 (0, 0)) := heap_setN (heap_setN (heap_setN (heap_setN (heap_setN (heap_setN hg2 0 _) 1 _) 2 _) 3 _) 4 _) 5 _
      have FF := ((((((Fr.refl [G] X0).setCell ⟨G, 0, none⟩ (by simp) (.int .i64 v.kind)).setCell ⟨G, 1, none⟩ (by simp) (.int .i64 v.num)).setCell ⟨G, 2, none⟩ (by simp) (.float .f64 v.flt)).setCell ⟨G, 3, none⟩ (by simp) (.string ⟨v.str.toArray⟩)).setCell ⟨G, 4, none⟩ (by simp) (.slice na nl nc)).setCell ⟨G, 5, none⟩ (by simp) (.slice ia il ic)
      clear d0 e0 z0 d1 e1 z1 d2 e2 z2 d3 e3 z3 d4 e4 z4 d5 e5 z5
      generalize ((((((X0).setCell ⟨G, 0, none⟩ (.int .i64 v.kind)).setCell ⟨G, 1, none⟩ (.int .i64 v.num)).setCell ⟨G, 2, none⟩ (.float .f64 v.flt)).setCell ⟨G, 3, none⟩ (.string ⟨v.str.toArray⟩)).setCell ⟨G, 4, none⟩ (.slice na nl nc)).setCell ⟨G, 5, none⟩ (.slice ia il ic) = Y at *
      have y0 : Y.cell? ⟨G, 0, none⟩ = some (.int .i64 v.kind) := by rw [Lib.cell_of_heap hgF]; rfl
      have y1 : Y.cell? ⟨G, 1, none⟩ = some (.int .i64 v.num) := by rw [Lib.cell_of_heap hgF]; rfl
      have y2 : Y.cell? ⟨G, 2, none⟩ = some (.float .f64 v.flt) := by rw [Lib.cell_of_heap hgF]; rfl
      have y3 : Y.cell? ⟨G, 3, none⟩ = some (.string ⟨v.str.toArray⟩) := by rw [Lib.cell_of_heap hgF]; rfl
      have y4 : Y.cell? ⟨G, 4, none⟩ = some (.slice na nl nc) := by rw [Lib.cell_of_heap hgF]; rfl
      have y5 : Y.cell? ⟨G, 5, none⟩ = some (.slice ia il ic) := by rw [Lib.cell_of_heap hgF]; rfl
      have hff := (A2.mono (m := [b, G]) (by simp)).trans (FF.mono (m := [b, G]) (by simp))
      refine bodyPost_ret (v := .agg #[.int .i64 v.kind, .int .i64 v.num, .float .f64 v.flt, .string ⟨v.str.toArray⟩, .slice na nl nc, .slice ia il ic]) (by simp [results, Tryz.results52, go_sem, y0, y1, y2, y3, y4, y5]) rfl ?_
      refine ⟨_, rfl, hv2.kept FF.size (fun g h1 h2 => ⟨by have := h1.1; have := HG.out; have := HSZ.out; omega, FF.block g h2 (by have := h1.1; have := HSZ.out; simp; omega)⟩), ⟨hel, ?_⟩, hff.fewer (Nat.le_of_eq HG.out)⟩
      have h9 := hb2.kept FF (by simpa using hbG)
      rw [← HK2.out] at h9; exact h9
    · skip
      have hQ : (((((((w1).setCell ⟨W0.heap.size, 0, none⟩ (.int .i64 v.kind)).setCell ⟨W0.heap.size, 1, none⟩ (.int .i64 v.num)).setCell ⟨W0.heap.size, 2, none⟩ (.float .f64 v.flt)).setCell ⟨W0.heap.size, 3, none⟩ (.string ⟨v.str.toArray⟩)).setCell ⟨W0.heap.size, 4, none⟩ (.slice na nl nc)).setCell ⟨W0.heap.size, 5, none⟩ (.slice ia il ic)).heap[W0.heap.size]? = some (.cells #[.int .i64 v.kind, .int .i64 v.num, .float .f64 v.flt, .string ⟨v.str.toArray⟩, .slice na nl nc, .slice ia il ic] 57 (0, 0)) := heap_setN (heap_setN (heap_setN (heap_setN (heap_setN (heap_setN n1 0 _) 1 _) 2 _) 3 _) 4 _) 5 _
      have FA := ((((((Fr.refl [W0.heap.size] w1).setCell ⟨W0.heap.size, 0, none⟩ (by simp) (.int .i64 v.kind)).setCell ⟨W0.heap.size, 1, none⟩ (by simp) (.int .i64 v.num)).setCell ⟨W0.heap.size, 2, none⟩ (by simp) (.float .f64 v.flt)).setCell ⟨W0.heap.size, 3, none⟩ (by simp) (.string ⟨v.str.toArray⟩)).setCell ⟨W0.heap.size, 4, none⟩ (by simp) (.slice na nl nc)).setCell ⟨W0.heap.size, 5, none⟩ (by simp) (.slice ia il ic)
      have hX0 : Below W0.heap.size W0 (((((((w1).setCell ⟨W0.heap.size, 0, none⟩ (.int .i64 v.kind)).setCell ⟨W0.heap.size, 1, none⟩ (.int .i64 v.num)).setCell ⟨W0.heap.size, 2, none⟩ (.float .f64 v.flt)).setCell ⟨W0.heap.size, 3, none⟩ (.string ⟨v.str.toArray⟩)).setCell ⟨W0.heap.size, 4, none⟩ (.slice na nl nc)).setCell ⟨W0.heap.size, 5, none⟩ (.slice ia il ic)) := hq1.trans (FA.below hq1.size (by simp))
      have hvX : ValIn (fun g => W0.heap.size ≤ g ∧ g ≠ W0.heap.size) (((((((w1).setCell ⟨W0.heap.size, 0, none⟩ (.int .i64 v.kind)).setCell ⟨W0.heap.size, 1, none⟩ (.int .i64 v.num)).setCell ⟨W0.heap.size, 2, none⟩ (.float .f64 v.flt)).setCell ⟨W0.heap.size, 3, none⟩ (.string ⟨v.str.toArray⟩)).setCell ⟨W0.heap.size, 4, none⟩ (.slice na nl nc)).setCell ⟨W0.heap.size, 5, none⟩ (.slice ia il ic)) 12 v #[.int .i64 v.kind, .int .i64 v.num, .float .f64 v.flt, .string ⟨v.str.toArray⟩, .slice na nl nc, .slice ia il ic] := hv1.kept FA.size fun g h1 h2 => by
        have h1 : W0.heap.size + 1 ≤ g := by simpa using h1
        exact ⟨⟨by omega, by omega⟩, FA.block g h2 (by simp; omega)⟩
      have hQW : W0.heap.size ≤ W0.heap.size := Nat.le_refl _
      clear n1 x0 x1 x2 x3 x4 x5 u0 u1 u2 u3 u4 u5 FA hv1 hb1 hq1
      generalize ((((((w1).setCell ⟨W0.heap.size, 0, none⟩ (.int .i64 v.kind)).setCell ⟨W0.heap.size, 1, none⟩ (.int .i64 v.num)).setCell ⟨W0.heap.size, 2, none⟩ (.float .f64 v.flt)).setCell ⟨W0.heap.size, 3, none⟩ (.string ⟨v.str.toArray⟩)).setCell ⟨W0.heap.size, 4, none⟩ (.slice na nl nc)).setCell ⟨W0.heap.size, 5, none⟩ (.slice ia il ic) = X at *
      refine (HMy.out _).mono ?_; rintro e w2 ⟨rfl, rfl⟩
      have hbX := HBb.out _ hX0
      have hgX := HGb.out _ hX0
      have hW := HSZ.out
      have d1 := hbX.c1; have f1 := hbX.fz 1
      have hb2 : SrB b s k2 (X.setCell ⟨b, 1, none⟩ (.int .i64 (k2 : Int))) := hbX.put1 k2
      have F2 := (Fr.refl [b] X).setCell (l := [b]) ⟨b, 1, none⟩ (by simp) (.int .i64 (k2 : Int))
      have hg2 := F2.at hgX (by simp; omega)
      have hQ2 := F2.at hQ (by simp; omega)
      have hv2 := hvX.fr F2 (fun g hg hn => by simp at hg; have := hn.1; omega)
      have A2 := (hA.trans (Fr.of_below (l := [b]) hX0)).trans F2
      clear hW
      go_upto_region 4 with (fail)
      clear d1 f1 hbX hgX hQ hvX F2
      generalize X.setCell ⟨b, 1, none⟩ (.int .i64 (k2 : Int)) = X0 at *
      have d0 : X0.cell? ⟨W0.heap.size, 0, none⟩ = some (.int .i64 v.kind) := by rw [Lib.cell_of_heap hQ2]; rfl
      have d1 : X0.cell? ⟨W0.heap.size, 1, none⟩ = some (.int .i64 v.num) := by rw [Lib.cell_of_heap hQ2]; rfl
      have d2 : X0.cell? ⟨W0.heap.size, 2, none⟩ = some (.float .f64 v.flt) := by rw [Lib.cell_of_heap hQ2]; rfl
      have d3 : X0.cell? ⟨W0.heap.size, 3, none⟩ = some (.string ⟨v.str.toArray⟩) := by rw [Lib.cell_of_heap hQ2]; rfl
      have d4 : X0.cell? ⟨W0.heap.size, 4, none⟩ = some (.slice na nl nc) := by rw [Lib.cell_of_heap hQ2]; rfl
      have d5 : X0.cell? ⟨W0.heap.size, 5, none⟩ = some (.slice ia il ic) := by rw [Lib.cell_of_heap hQ2]; rfl
      have e0 : X0.cell? ⟨G, 0, none⟩ = some (.int .i64 0) := by rw [Lib.cell_of_heap hg2]; rfl
      have z0 : X0.frozen? ⟨G, 0, none⟩ = false := Lib.frozen_of_heap hg2 0
      have e1 : X0.cell? ⟨G, 1, none⟩ = some (.int .i64 0) := by rw [Lib.cell_of_heap hg2]; rfl
      have z1 : X0.frozen? ⟨G, 1, none⟩ = false := Lib.frozen_of_heap hg2 1
      have e2 : X0.cell? ⟨G, 2, none⟩ = some (.float .f64 0) := by rw [Lib.cell_of_heap hg2]; rfl
      have z2 : X0.frozen? ⟨G, 2, none⟩ = false := Lib.frozen_of_heap hg2 2
      have e3 : X0.cell? ⟨G, 3, none⟩ = some (.string ⟨#[]⟩) := by rw [Lib.cell_of_heap hg2]; rfl
      have z3 : X0.frozen? ⟨G, 3, none⟩ = false := Lib.frozen_of_heap hg2 3
      have e4 : X0.cell? ⟨G, 4, none⟩ = some (.slice none 0 0) := by rw [Lib.cell_of_heap hg2]; rfl
      have z4 : X0.frozen? ⟨G, 4, none⟩ = false := Lib.frozen_of_heap hg2 4
      have e5 : X0.cell? ⟨G, 5, none⟩ = some (.slice none 0 0) := by rw [Lib.cell_of_heap hg2]; rfl
      have z5 : X0.frozen? ⟨G, 5, none⟩ = false := Lib.frozen_of_heap hg2 5
      go_wp2_with fail
      have hgF : (((((((X0).setCell ⟨G, 0, none⟩ (.int .i64 v.kind)).setCell ⟨G, 1, none⟩ (.int .i64 v.num)).setCell ⟨G, 2, none⟩ (.float .f64 v.flt)).setCell ⟨G, 3, none⟩ (.string ⟨v.str.toArray⟩)).setCell ⟨G, 4, none⟩ (.slice na nl nc)).setCell ⟨G, 5, none⟩ (.slice ia il ic)).heap[G]? = some (.cells #[.int .i64 v.kind, .int .i64 v.num, .float .f64 v.flt, .string ⟨v.str.toArray⟩, .slice na nl nc, .slice ia il ic] 57 (0, 0)) := heap_setN (heap_setN (heap_setN (heap_setN (heap_setN (heap_setN hg2 0 _) 1 _) 2 _) 3 _) 4 _) 5 _
      have FF := ((((((Fr.refl [G] X0).setCell ⟨G, 0, none⟩ (by simp) (.int .i64 v.kind)).setCell ⟨G, 1, none⟩ (by simp) (.int .i64 v.num)).setCell ⟨G, 2, none⟩ (by simp) (.float .f64 v.flt)).setCell ⟨G, 3, none⟩ (by simp) (.string ⟨v.str.toArray⟩)).setCell ⟨G, 4, none⟩ (by simp) (.slice na nl nc)).setCell ⟨G, 5, none⟩ (by simp) (.slice ia il ic)
      clear d0 e0 z0 d1 e1 z1 d2 e2 z2 d3 e3 z3 d4 e4 z4 d5 e5 z5
      generalize ((((((X0).setCell ⟨G, 0, none⟩ (.int .i64 v.kind)).setCell ⟨G, 1, none⟩ (.int .i64 v.num)).setCell ⟨G, 2, none⟩ (.float .f64 v.flt)).setCell ⟨G, 3, none⟩ (.string ⟨v.str.toArray⟩)).setCell ⟨G, 4, none⟩ (.slice na nl nc)).setCell ⟨G, 5, none⟩ (.slice ia il ic) = Y at *
      have y0 : Y.cell? ⟨G, 0, none⟩ = some (.int .i64 v.kind) := by rw [Lib.cell_of_heap hgF]; rfl
      have y1 : Y.cell? ⟨G, 1, none⟩ = some (.int .i64 v.num) := by rw [Lib.cell_of_heap hgF]; rfl
      have y2 : Y.cell? ⟨G, 2, none⟩ = some (.float .f64 v.flt) := by rw [Lib.cell_of_heap hgF]; rfl
      have y3 : Y.cell? ⟨G, 3, none⟩ = some (.string ⟨v.str.toArray⟩) := by rw [Lib.cell_of_heap hgF]; rfl
      have y4 : Y.cell? ⟨G, 4, none⟩ = some (.slice na nl nc) := by rw [Lib.cell_of_heap hgF]; rfl
      have y5 : Y.cell? ⟨G, 5, none⟩ = some (.slice ia il ic) := by rw [Lib.cell_of_heap hgF]; rfl
      have hff := (A2.mono (m := [b, G]) (by simp)).trans (FF.mono (m := [b, G]) (by simp))
      refine bodyPost_ret (v := .agg #[.int .i64 v.kind, .int .i64 v.num, .float .f64 v.flt, .string ⟨v.str.toArray⟩, .slice na nl nc, .slice ia il ic]) (by simp [results, Tryz.results52, go_sem, y0, y1, y2, y3, y4, y5]) rfl ?_
      refine ⟨_, rfl, hv2.kept FF.size (fun g h1 h2 => ⟨by have := h1.1; have := HG.out; have := HSZ.out; omega, FF.block g h2 (by have := h1.1; have := HSZ.out; simp; omega)⟩), ⟨hel, ?_⟩, hff.fewer (Nat.le_of_eq HG.out)⟩
      have h9 := hb2.kept FF (by simpa using hbG)
      rw [← HK2.out] at h9; exact h9
end
section
open Go.RowKit
/-- a value or none, read -/
def someR (l : List UInt8) : Option (VT × List UInt8) :=
  match l with
  | [] => none
  | c :: t => if c.toNat = 0 then some (noVT, t) else if c.toNat = 1 then rdVal t else none
/-- operations still to be run, not to be laid open -/
structure StillG (P : Program) (ops : Array Oper) (w : World) (Q : Act → Prop) (l : List Oper) (a : Act) : Prop where
  out : wpStill P ops w Q l a
theorem StillG.nil {P : Program} {ops : Array Oper} {w : World} {Q : Act → Prop} {a : Act} (h : Q a) : StillG P ops w Q [] a := ⟨wpStill_nil h⟩
theorem StillG.step {P : Program} {ops : Array Oper} {w : World} {Q : Act → Prop} {a : Act} {o : Oper} {rest : List Oper}
    (h : ∀ K : Act → Prop, (∀ a, StillG P ops w Q rest a → K a) → if Region.wanted o (yielded ops a.tmps) then o.still P a w K else K (a.put o.dst undef)) : StillG P ops w Q (o :: rest) a :=
  ⟨wpStill_step fun K hK => h K fun a ha => hK a ha.out⟩
theorem wp_still_tailG {P : Program} {w : World} {id : Nat} {Q : Exit → Act → World → Prop} {a : Act} {l : List Oper} (n : Nat) (hm : P.follows .mixedOrders = true) (hB : Region.lexTailB .any l.toArray n = true)
    (h : StillG P l.toArray w.drew (fun a' => wpList P l.toArray Q (l.drop n) a' w.drew) (l.take n) a) : (Code.region id l.toArray true).wp P Q a w :=
  wp_region_still_tail n hm hB h.out
set_option maxRecDepth 100000 in
set_option maxHeartbeats 400000 in
theorem ssome_out (s : ByteArray) (b : Nat) (k : Nat) (hk : s.size ≤ k) (w : World) (hb : SrB b s k w) :
    Calls Tryz.prog 51 #[.pointer (some ⟨b, 0, none⟩)] w (SvPost b s w none) := by
  have HMn := Lib.hid must_no
  have hA := (Fr.refl [b] w).alloc (.cells #[.int .i64 0, .int .i64 0, .float .f64 0, .string ⟨#[]⟩, .slice none 0 0, .slice none 0 0] 57)
  have hb0 : SrB b s k (w.alloc (.cells #[.int .i64 0, .int .i64 0, .float .f64 0, .string ⟨#[]⟩, .slice none 0 0, .slice none 0 0] 57)) := hb.below ((Below.refl _ _).alloc (Nat.le_refl _) _)
  have t1 : decide ((k : Int) < (s.size : Int)) = false := by simp; omega
  have t2 : decide (k < s.size) = false := by simp; omega
  clear hk hb
  generalize hW0 : w.alloc (.cells #[.int .i64 0, .int .i64 0, .float .f64 0, .string ⟨#[]⟩, .slice none 0 0, .slice none 0 0] 57) = W0 at *
  have HW0 := Lib.hid hW0; clear hW0
  have c0 := hb0.c0; have c1 := hb0.c1
  clear hb0
  go_enter Tryz.func51, Tryz.ntmps51
  go_wp2_with fail
  rw [HW0.out]
  refine wp_still_tailG 22 (by kernel_rfl) (by kernel_rfl) ?_
  simp only [List.take_succ_cons, List.take_zero, List.drop_succ_cons, List.drop_zero]
  iterate 22 (refine StillG.step (fun K hK => ?_); go_simp; refine hK _ ?_; clear hK K)
  refine StillG.nil ?_
  go_wp2_with fail
  refine (HMn.out _).mono ?_; rintro e w2 ⟨rfl, rfl⟩
  go_wp2_with fail
  exact ⟨rfl, rfl, hA.drew⟩
set_option maxRecDepth 100000 in
set_option maxHeartbeats 2000000 in
theorem ssomeL (s : ByteArray) (hs : s.size ≤ 100000000) (b : Nat) (l : List UInt8) (w : World) (hb : SrL b s l w) :
    Calls Tryz.prog 51 #[.pointer (some ⟨b, 0, none⟩)] w (SvPost b s w (someR l)) := by
  have hsf : ∀ (a : Addr) (x : Nat) (m : Mode) (w : World), (store a (.float .f64 x) m).run Tryz.prog w = stored Tryz.prog w a (.float .f64 x) m := fun a x m w => run_store _ w a _ m rfl
  have HV := Lib.hid (fun l w hb => svalL s hs b l w hb)
  have hl := hb.1.back
  have hb1 := hb.2
  have hbl := hb.lt
  clear hb
  generalize hkk : s.size - l.length = k at *
  clear hkk
  subst hl
  have HB1 := Lib.hid hb1
  have HMy := Lib.hid must_yes
  have HMn := Lib.hid must_no
  have hA := (Fr.refl [b] w).alloc (.cells #[.int .i64 0, .int .i64 0, .float .f64 0, .string ⟨#[]⟩, .slice none 0 0, .slice none 0 0] 57)
  have hgA : (w.alloc (.cells #[.int .i64 0, .int .i64 0, .float .f64 0, .string ⟨#[]⟩, .slice none 0 0, .slice none 0 0] 57)).heap[w.heap.size]? = some (.cells #[.int .i64 0, .int .i64 0, .float .f64 0, .string ⟨#[]⟩, .slice none 0 0, .slice none 0 0] 57 (0, 0)) := heap_alloc_new w _
  have hb0 : SrB b s k (w.alloc (.cells #[.int .i64 0, .int .i64 0, .float .f64 0, .string ⟨#[]⟩, .slice none 0 0, .slice none 0 0] 57)) := hb1.below ((Below.refl _ _).alloc (Nat.le_refl _) _)
  clear hb1
  generalize hW0 : w.alloc (.cells #[.int .i64 0, .int .i64 0, .float .f64 0, .string ⟨#[]⟩, .slice none 0 0, .slice none 0 0] 57) = W0 at *
  generalize hG : w.heap.size = G at *
  have HW0 := Lib.hid hW0; have HG := Lib.hid hG
  clear hW0 hG
  have HGA := Lib.hid hgA; clear hgA
  have c0 := hb0.c0; have c1 := hb0.c1; have f1 := hb0.fz 1
  have hbG : b ≠ G := by omega
  have hL : s.data.toList.length = s.size := by simp
  by_cases hk : k < s.size
  · have hd := drop_byte (l := s.data.toList) (k := k) (by rw [hL]; exact hk)
    have hg : s.data.toList.getD k 0 = s[k]'hk := by simp [List.getD, hk]; rfl
    rw [hg] at hd
    have hR : someR (s.data.toList.drop k) = if (s[k]'hk).toNat = 0 then some (noVT, s.data.toList.drop (k + 1)) else if (s[k]'hk).toNat = 1 then rdVal (s.data.toList.drop (k + 1)) else none := by rw [hd]; rfl
    clear hd hg hL
    have t1 : decide ((k : Int) < (s.size : Int)) = true := by simp; omega
    have b1 : (0 : Int) ≤ (k : Int) := by omega
    have b2 : (k : Int) < (s.size : Int) := by omega
    have w1 : IntKind.i64.wrap ((k : Int) + 1 - 1) = (k : Int) := by rw [IntKind.wrap_i64]; omega
    have w2 : IntKind.i64.wrap (k : Int) = (k : Int) := by rw [IntKind.wrap_i64]; omega
    by_cases h0 : (s[k]'hk).toNat = 0
    · rw [if_pos h0] at hR
      rw [hR]
      clear hR
      have t2 : decide (((s[k]'hk).toNat : Int) ≤ 1) = true := by rw [h0]; rfl
      have t3 : (((s[k]'hk).toNat : Int) == 0) = true := by rw [h0]; rfl
      go_enter Tryz.func51, Tryz.ntmps51
      go_wp2_with fail
      rw [HW0.out, HG.out]
      go_quiet (refine Calls.quiet_of_same ((HMy.out _).mono fun _ _ h => ⟨h.1, h.2.symm⟩))
      go_wp2_with fail
      have A1 : SrB b s (k + 1) ((W0.drewN nq).setCell ⟨b, 1, none⟩ (.int .i64 ((k : Int) + 1))) := (hb0.drewN nq).put1 (k + 1)
      have A2 := (hA.drewN nq).setCell (l := [b]) ⟨b, 1, none⟩ (by simp) (.int .i64 ((k : Int) + 1))
      have A3 := ((Fr.refl [b] W0).drewN nq).setCell (l := [b]) ⟨b, 1, none⟩ (by simp) (.int .i64 ((k : Int) + 1))
      have g2 := A3.at HGA.out (by simp; omega)
      clear c0 c1 f1 t1 A3
      generalize (W0.drewN nq).setCell ⟨b, 1, none⟩ (.int .i64 ((k : Int) + 1)) = W2 at *
      have c0 := A1.c0; have c1 := A1.c1
      generalize hk1 : k + 1 = k1 at A1 c1
      have e1 : (k1 : Int) = (k : Int) + 1 := by omega
      rw [e1] at c1
      subst hk1
      clear e1
      go_quiet (fail)
      have A1 : SrB b s (k + 1) (W2.drewN nq) := A1
      have A2 := A2.drewN nq
      have g2 : (W2.drewN nq).heap[G]? = _ := g2
      clear c0 c1
      generalize W2.drewN nq = W3 at *
      have A1 : SrL b s (s.data.toList.drop (k + 1)) W3 := ⟨EndOf.start s (k + 1) (by omega), by
        rw [show s.size - (s.data.toList.drop (k + 1)).length = k + 1 by rw [List.length_drop]; have : s.data.toList.length = s.size := by simp
                                                                         omega]
        exact A1⟩
      have e0 : W3.cell? ⟨G, 0, none⟩ = some (.int .i64 0) := by rw [Lib.cell_of_heap g2]; rfl
      have z0 : W3.frozen? ⟨G, 0, none⟩ = false := Lib.frozen_of_heap g2 0
      have e1 : W3.cell? ⟨G, 1, none⟩ = some (.int .i64 0) := by rw [Lib.cell_of_heap g2]; rfl
      have z1 : W3.frozen? ⟨G, 1, none⟩ = false := Lib.frozen_of_heap g2 1
      have e2 : W3.cell? ⟨G, 2, none⟩ = some (.float .f64 0) := by rw [Lib.cell_of_heap g2]; rfl
      have z2 : W3.frozen? ⟨G, 2, none⟩ = false := Lib.frozen_of_heap g2 2
      have e3 : W3.cell? ⟨G, 3, none⟩ = some (.string ⟨#[]⟩) := by rw [Lib.cell_of_heap g2]; rfl
      have z3 : W3.frozen? ⟨G, 3, none⟩ = false := Lib.frozen_of_heap g2 3
      have e4 : W3.cell? ⟨G, 4, none⟩ = some (.slice none 0 0) := by rw [Lib.cell_of_heap g2]; rfl
      have z4 : W3.frozen? ⟨G, 4, none⟩ = false := Lib.frozen_of_heap g2 4
      have e5 : W3.cell? ⟨G, 5, none⟩ = some (.slice none 0 0) := by rw [Lib.cell_of_heap g2]; rfl
      have z5 : W3.frozen? ⟨G, 5, none⟩ = false := Lib.frozen_of_heap g2 5
      go_wp2_with fail
      have hgF : (((((((W3).setCell ⟨G, 0, none⟩ (.int .i64 0)).setCell ⟨G, 1, none⟩ (.int .i64 0)).setCell ⟨G, 2, none⟩ (.float .f64 0)).setCell ⟨G, 3, none⟩ (.string ⟨#[]⟩)).setCell ⟨G, 4, none⟩ (.slice none 0 0)).setCell ⟨G, 5, none⟩ (.slice none 0 0)).heap[G]? = some (.cells #[.int .i64 0, .int .i64 0, .float .f64 0, .string ⟨#[]⟩, .slice none 0 0, .slice none 0 0] 57 (0, 0)) := heap_setN (heap_setN (heap_setN (heap_setN (heap_setN (heap_setN g2 0 _) 1 _) 2 _) 3 _) 4 _) 5 _
      have FF := ((((((Fr.refl [G] W3).setCell ⟨G, 0, none⟩ (by simp) (.int .i64 0)).setCell ⟨G, 1, none⟩ (by simp) (.int .i64 0)).setCell ⟨G, 2, none⟩ (by simp) (.float .f64 0)).setCell ⟨G, 3, none⟩ (by simp) (.string ⟨#[]⟩)).setCell ⟨G, 4, none⟩ (by simp) (.slice none 0 0)).setCell ⟨G, 5, none⟩ (by simp) (.slice none 0 0)
      clear e0 z0 e1 z1 e2 z2 e3 z3 e4 z4 e5 z5
      generalize ((((((W3).setCell ⟨G, 0, none⟩ (.int .i64 0)).setCell ⟨G, 1, none⟩ (.int .i64 0)).setCell ⟨G, 2, none⟩ (.float .f64 0)).setCell ⟨G, 3, none⟩ (.string ⟨#[]⟩)).setCell ⟨G, 4, none⟩ (.slice none 0 0)).setCell ⟨G, 5, none⟩ (.slice none 0 0) = Y at *
      have y0 : Y.cell? ⟨G, 0, none⟩ = some (.int .i64 0) := by rw [Lib.cell_of_heap hgF]; rfl
      have y1 : Y.cell? ⟨G, 1, none⟩ = some (.int .i64 0) := by rw [Lib.cell_of_heap hgF]; rfl
      have y2 : Y.cell? ⟨G, 2, none⟩ = some (.float .f64 0) := by rw [Lib.cell_of_heap hgF]; rfl
      have y3 : Y.cell? ⟨G, 3, none⟩ = some (.string ⟨#[]⟩) := by rw [Lib.cell_of_heap hgF]; rfl
      have y4 : Y.cell? ⟨G, 4, none⟩ = some (.slice none 0 0) := by rw [Lib.cell_of_heap hgF]; rfl
      have y5 : Y.cell? ⟨G, 5, none⟩ = some (.slice none 0 0) := by rw [Lib.cell_of_heap hgF]; rfl
      have hff := (A2.mono (m := [b, G]) (by simp)).trans (FF.mono (m := [b, G]) (by simp))
      have hrY := A1.kept FF (by simpa using hbG)
      refine bodyPost_ret (v := .agg #[.int .i64 0, .int .i64 0, .float .f64 0, .string ⟨#[]⟩, .slice none 0 0, .slice none 0 0]) (by simp [results, Tryz.results51, go_sem, y0, y1, y2, y3, y4, y5]) rfl ?_
      exact ⟨_, rfl, ValIn.leaf (k := 0) (n := 0) (f := 0) (t := []) (by omega) (by omega) (by unfold F64; omega) (by simp) 11, hrY, hff.fewer (Nat.le_of_eq HG.out)⟩
    · by_cases h1 : (s[k]'hk).toNat = 1
      · rw [if_neg h0, if_pos h1] at hR
        rw [hR]
        clear hR
        have t2 : decide (((s[k]'hk).toNat : Int) ≤ 1) = true := by rw [h1]; rfl
        have t3 : (((s[k]'hk).toNat : Int) == 0) = false := by rw [h1]; rfl
        have HVV := Lib.hid (HV.out (s.data.toList.drop (k + 1)))
        clear h0 HV
        go_enter Tryz.func51, Tryz.ntmps51
        go_wp2_with fail
        rw [HW0.out, HG.out]
        go_quiet (refine Calls.quiet_of_same ((HMy.out _).mono fun _ _ h => ⟨h.1, h.2.symm⟩))
        go_wp2_with fail
        have A1 : SrB b s (k + 1) ((W0.drewN nq).setCell ⟨b, 1, none⟩ (.int .i64 ((k : Int) + 1))) := (hb0.drewN nq).put1 (k + 1)
        have A2 := (hA.drewN nq).setCell (l := [b]) ⟨b, 1, none⟩ (by simp) (.int .i64 ((k : Int) + 1))
        have A3 := ((Fr.refl [b] W0).drewN nq).setCell (l := [b]) ⟨b, 1, none⟩ (by simp) (.int .i64 ((k : Int) + 1))
        have g2 := A3.at HGA.out (by simp; omega)
        clear c0 c1 f1 t1 A3
        generalize (W0.drewN nq).setCell ⟨b, 1, none⟩ (.int .i64 ((k : Int) + 1)) = W2 at *
        have c0 := A1.c0; have c1 := A1.c1
        generalize hk1 : k + 1 = k1 at A1 c1
        have e1 : (k1 : Int) = (k : Int) + 1 := by omega
        rw [e1] at c1
        subst hk1
        clear e1
        go_quiet (fail)
        have A1 : SrB b s (k + 1) (W2.drewN nq) := A1
        have A2 := A2.drewN nq
        have g2 : (W2.drewN nq).heap[G]? = _ := g2
        clear c0 c1
        generalize W2.drewN nq = W3 at *
        have A1 : SrL b s (s.data.toList.drop (k + 1)) W3 := ⟨EndOf.start s (k + 1) (by omega), by
          rw [show s.size - (s.data.toList.drop (k + 1)).length = k + 1 by rw [List.length_drop]; have : s.data.toList.length = s.size := by simp
                                                                           omega]
          exact A1⟩
        generalize s.data.toList.drop (k + 1) = l1 at *
        have hV := HVV.out W3 A1
        clear HVV
        generalize rdVal l1 = r at *
        cases r with
        | none =>
          have HVV := Lib.hid hV
          go_wp2_with fail
          refine (HVV.out).mono ?_; rintro e w4 ⟨rfl, hf4⟩
          go_wp2_with fail
          exact ⟨rfl, rfl, A2.trans hf4⟩
        | some r =>
          obtain ⟨v, l'⟩ := r
          have HVV := Lib.hid hV
          clear hV
          go_wp2_with fail
          refine (HVV.out).mono ?_; rintro e w4 ⟨cs, rfl, hv4, h4, hf4⟩
          obtain ⟨na, nl, nc, ia, il, ic, rfl⟩ := hv4.six
          have g4 := hf4.at g2 (by simp; omega)
          have hGW : G < W3.heap.size := lt_of_block g2
          have A4 := A2.trans hf4
          have e0 : w4.cell? ⟨G, 0, none⟩ = some (.int .i64 0) := by rw [Lib.cell_of_heap g4]; rfl
          have z0 : w4.frozen? ⟨G, 0, none⟩ = false := Lib.frozen_of_heap g4 0
          have e1 : w4.cell? ⟨G, 1, none⟩ = some (.int .i64 0) := by rw [Lib.cell_of_heap g4]; rfl
          have z1 : w4.frozen? ⟨G, 1, none⟩ = false := Lib.frozen_of_heap g4 1
          have e2 : w4.cell? ⟨G, 2, none⟩ = some (.float .f64 0) := by rw [Lib.cell_of_heap g4]; rfl
          have z2 : w4.frozen? ⟨G, 2, none⟩ = false := Lib.frozen_of_heap g4 2
          have e3 : w4.cell? ⟨G, 3, none⟩ = some (.string ⟨#[]⟩) := by rw [Lib.cell_of_heap g4]; rfl
          have z3 : w4.frozen? ⟨G, 3, none⟩ = false := Lib.frozen_of_heap g4 3
          have e4 : w4.cell? ⟨G, 4, none⟩ = some (.slice none 0 0) := by rw [Lib.cell_of_heap g4]; rfl
          have z4 : w4.frozen? ⟨G, 4, none⟩ = false := Lib.frozen_of_heap g4 4
          have e5 : w4.cell? ⟨G, 5, none⟩ = some (.slice none 0 0) := by rw [Lib.cell_of_heap g4]; rfl
          have z5 : w4.frozen? ⟨G, 5, none⟩ = false := Lib.frozen_of_heap g4 5
          go_wp2_with fail
          have hgF : (((((((w4).setCell ⟨G, 0, none⟩ (.int .i64 v.kind)).setCell ⟨G, 1, none⟩ (.int .i64 v.num)).setCell ⟨G, 2, none⟩ (.float .f64 v.flt)).setCell ⟨G, 3, none⟩ (.string ⟨v.str.toArray⟩)).setCell ⟨G, 4, none⟩ (.slice na nl nc)).setCell ⟨G, 5, none⟩ (.slice ia il ic)).heap[G]? = some (.cells #[.int .i64 v.kind, .int .i64 v.num, .float .f64 v.flt, .string ⟨v.str.toArray⟩, .slice na nl nc, .slice ia il ic] 57 (0, 0)) := heap_setN (heap_setN (heap_setN (heap_setN (heap_setN (heap_setN g4 0 _) 1 _) 2 _) 3 _) 4 _) 5 _
          have FF := ((((((Fr.refl [G] w4).setCell ⟨G, 0, none⟩ (by simp) (.int .i64 v.kind)).setCell ⟨G, 1, none⟩ (by simp) (.int .i64 v.num)).setCell ⟨G, 2, none⟩ (by simp) (.float .f64 v.flt)).setCell ⟨G, 3, none⟩ (by simp) (.string ⟨v.str.toArray⟩)).setCell ⟨G, 4, none⟩ (by simp) (.slice na nl nc)).setCell ⟨G, 5, none⟩ (by simp) (.slice ia il ic)
          clear e0 z0 e1 z1 e2 z2 e3 z3 e4 z4 e5 z5
          generalize ((((((w4).setCell ⟨G, 0, none⟩ (.int .i64 v.kind)).setCell ⟨G, 1, none⟩ (.int .i64 v.num)).setCell ⟨G, 2, none⟩ (.float .f64 v.flt)).setCell ⟨G, 3, none⟩ (.string ⟨v.str.toArray⟩)).setCell ⟨G, 4, none⟩ (.slice na nl nc)).setCell ⟨G, 5, none⟩ (.slice ia il ic) = Y at *
          have y0 : Y.cell? ⟨G, 0, none⟩ = some (.int .i64 v.kind) := by rw [Lib.cell_of_heap hgF]; rfl
          have y1 : Y.cell? ⟨G, 1, none⟩ = some (.int .i64 v.num) := by rw [Lib.cell_of_heap hgF]; rfl
          have y2 : Y.cell? ⟨G, 2, none⟩ = some (.float .f64 v.flt) := by rw [Lib.cell_of_heap hgF]; rfl
          have y3 : Y.cell? ⟨G, 3, none⟩ = some (.string ⟨v.str.toArray⟩) := by rw [Lib.cell_of_heap hgF]; rfl
          have y4 : Y.cell? ⟨G, 4, none⟩ = some (.slice na nl nc) := by rw [Lib.cell_of_heap hgF]; rfl
          have y5 : Y.cell? ⟨G, 5, none⟩ = some (.slice ia il ic) := by rw [Lib.cell_of_heap hgF]; rfl
          have hff := (A4.mono (m := [b, G]) (by simp)).trans (FF.mono (m := [b, G]) (by simp))
          have hrY := h4.kept FF (by simpa using hbG)
          refine bodyPost_ret (v := .agg #[.int .i64 v.kind, .int .i64 v.num, .float .f64 v.flt, .string ⟨v.str.toArray⟩, .slice na nl nc, .slice ia il ic]) (by simp [results, Tryz.results51, go_sem, y0, y1, y2, y3, y4, y5]) rfl ?_
          exact ⟨_, rfl, hv4.kept FF.size (fun g h1 h2 => ⟨by have := HG.out; omega, FF.block g h2 (by simp; omega)⟩), hrY, hff.fewer (Nat.le_of_eq HG.out)⟩
      · rw [if_neg h0, if_neg h1] at hR
        rw [hR]
        clear hR
        have t2 : decide (((s[k]'hk).toNat : Int) ≤ 1) = false := by simp; omega
        go_enter Tryz.func51, Tryz.ntmps51
        go_wp2_with fail
        rw [HW0.out, HG.out]
        refine wp_still_tailG 22 (by kernel_rfl) (by kernel_rfl) ?_
        simp only [List.take_succ_cons, List.take_zero, List.drop_succ_cons, List.drop_zero]
        iterate 22 (refine StillG.step (fun K hK => ?_); go_simp; refine hK _ ?_; clear hK K)
        refine StillG.nil ?_
        go_wp2_with fail
        refine (HMn.out _).mono ?_; rintro e w2 ⟨rfl, rfl⟩
        go_wp2_with fail
        exact ⟨rfl, rfl, hA.drew⟩
  · have hR : someR (s.data.toList.drop k) = none := by rw [List.drop_eq_nil_of_le (by rw [hL]; omega)]; rfl
    rw [hR]
    clear hR
    exact ssome_out s b k (by omega) w HB1.out
end
end Go.Proofs.YtnaamiecljinnaaGreat
