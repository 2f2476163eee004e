/-
  G4 in one text.
-/
import Derived.Below
import Derived.BigQuiet
import Derived.Deep.AppendLies
import Derived.Deep.Cut
import Derived.Deep.CutBlock
import Derived.Deep.DeepCutAuto
import Derived.Deep.QuietTactic
import Derived.Deep.RegionHeld3
import Derived.Deep.RegionLaw
import Derived.Deep.RegionWith
import Derived.Defers
import Derived.Handy
import Derived.IntWalk
import Derived.Laws.Bits64b
import Derived.Laws.FloatBits
import Derived.Lib.AtoiAll
import Derived.Lib.Builder
import Derived.Lib.Bytes
import Derived.Lib.ConvBytes
import Derived.Lib.FrozenHead2
import Derived.Lib.Hide
import Derived.Lib.IndexMore
import Derived.Lib.ItoaNum
import Derived.Lib.MinMax
import Derived.Lib.OthersKept
import Derived.Lib.ParseIntB
import Derived.Lib.UnsafeStr
import Derived.LoopTactic
import Derived.OneCell
import Derived.OwnWalk
import Derived.Recover
import Derived.RegionTactic
import Derived.Shelf.Abstract
import Derived.StillTailTactics
import Derived.Tactics
import Derived.Tactics2
import Derived.Test.YtnaamiecljinnaaGreatChecked
import Derived.WalkKit
import Derived.WalkLawsBesides
import Derived.WalkSpells
import Ieee.Arith
import Derived.Test.YtnaamiecljinnaaGreatS00
import Derived.Test.YtnaamiecljinnaaGreatS02
import Derived.Test.YtnaamiecljinnaaGreatS08
import Derived.Test.YtnaamiecljinnaaGreatS19
namespace Go.Proofs.YtnaamiecljinnaaGreat
open Go.RowKit
theorem Fr.fewer3 {b P Q : Nat} {w w' : World} (h : Fr [b, P, Q] w w') (hP : w.heap.size ≤ P) (hQ : w.heap.size ≤ Q) : Fr [b] w w' :=
  ⟨h.os, h.tape, h.output, h.size, fun i hi hn => h.block i hi (by simp at hn ⊢; omega)⟩
/-- what Reader.Value leaves: a value in memory, in any case; the one that was to be read, or an error -/
def RVal (b : Nat) (s : ByteArray) (f : Nat) (w : World) (r : Option (VT × Nat × List UInt8)) (e : Ending) (w' : World) : Prop :=
  ∃ v cs q st, e = .returned (.agg cs) ∧ ValIn (fun g => w.heap.size ≤ g) w' (f + 1) v cs ∧ RdAt b s st q w' ∧ Fr [b] w w' ∧ (match r with | some x => v = x.1 ∧ q = x.2.1 ∧ st = some x.2.2 | none => st = none)
set_option maxRecDepth 100000 in
set_option maxHeartbeats 8000000 in
theorem rvalue_no (s : ByteArray) (hs : s.size ≤ 1000000) (b : Nat) (st : Option (List UInt8)) (p f dn K : Nat) (hp : p ≤ 200) (st2 : Option (List UInt8)) (hkc : outR 0 ((begR dn p st).bind byteR) = (K, st2)) (hK : K ≤ 255) (hn : st2 = none ∨ K < 1 ∨ 6 < K) (w : World) (h : RdAt b s st p w) :
    Calls Tryz.prog 86 #[.pointer (some ⟨b, 0, none⟩), .int .i64 (dn : Int)] w (RVal b s f w none) := by
  have HF := Lib.hid (fun st (w : World) (h : RdAt b s st (p + 1) w) => rfail_any 5 (by decide) b (p + 1) s st w h)
  cases st2 with
  | none =>
    clear hn
    have hsf : ∀ (a : Addr) (x : Nat) (m : Mode) (w : World), (store a (.float .f64 x) m).run Tryz.prog w = stored Tryz.prog w a (.float .f64 x) m := fun a x m w => run_store _ w a _ m rfl
    have hbl := h.lt
    have h0 := h.below ((Below.refl _ _).alloc (Nat.le_refl _) (.cells #[.int .i64 0, .int .i64 0, .float .f64 0, .string ⟨#[]⟩, .slice none 0 0, .slice none 0 0] 57))
    have hg0 : (w.alloc (.cells #[.int .i64 0, .int .i64 0, .float .f64 0, .string ⟨#[]⟩, .slice none 0 0, .slice none 0 0] 57)).heap[w.heap.size]? = some (.cells #[.int .i64 0, .int .i64 0, .float .f64 0, .string ⟨#[]⟩, .slice none 0 0, .slice none 0 0] 57 (0, 0)) := heap_alloc_new w _
    have hf0 := (Fr.refl [b] w).alloc (.cells #[.int .i64 0, .int .i64 0, .float .f64 0, .string ⟨#[]⟩, .slice none 0 0, .slice none 0 0] 57)
    have HB := Lib.hid (fun w h => rbegin_any dn b p (by omega) s st w h)
    have HY := Lib.hid (fun w h => (show Calls Tryz.prog 56 #[.pointer (some ⟨b, 0, none⟩)] w (RdCall b s (p + 1) w (.int .i64 (K : Int), none)) from by
      have := rbyte_any b (p + 1) s hs (begR dn p st) w h
      rw [hkc] at this; exact this))
    clear h
    generalize hgh : w.heap.size = P at *
    have HP := Lib.hid hgh; clear hgh
    have hnP : P ∉ [b] := by simp; omega
    go_enter Tryz.func86, Tryz.ntmps86
    go_wp2_with fail
    rw [HP.out]
    generalize w.alloc (.cells #[.int .i64 0, .int .i64 0, .float .f64 0, .string ⟨#[]⟩, .slice none 0 0, .slice none 0 0] 57) = W0 at *
    refine (HB.out _ h0).mono ?_; rintro e w1 ⟨rfl, h1, hf1⟩
    have hg1 := hf1.at hg0 hnP
    have A1 := hf0.trans hf1
    clear h0 hg0 hf1 hf0
    go_wp2_with fail
    refine (HY.out _ h1).mono ?_; rintro e w2 ⟨rfl, h2, hf2⟩
    dsimp only at h2 ⊢
    have hg2 := hf2.at hg1 hnP
    have A2 := A1.trans hf2
    clear h1 hg1 hf2 A1
    go_upto_region 3 with (fail)
    have hgQ : (w2.alloc (.cells #[.int .i64 (K : Int), .int .i64 0, .float .f64 0, .string ⟨#[]⟩, .slice none 0 0, .slice none 0 0] 57)).heap[w2.heap.size]? = some (.cells #[.int .i64 (K : Int), .int .i64 0, .float .f64 0, .string ⟨#[]⟩, .slice none 0 0, .slice none 0 0] 57 (0, 0)) := heap_alloc_new w2 _
    have hPQ : P < w2.heap.size := lt_of_block hg2
    have hgP := (Lib.alloc_old w2 (.cells #[.int .i64 (K : Int), .int .i64 0, .float .f64 0, .string ⟨#[]⟩, .slice none 0 0, .slice none 0 0] 57) P hPQ).trans hg2
    have h3 := h2.below ((Below.refl _ _).alloc (Nat.le_refl _) (.cells #[.int .i64 (K : Int), .int .i64 0, .float .f64 0, .string ⟨#[]⟩, .slice none 0 0, .slice none 0 0] 57))
    have A3 := (A2.alloc (.cells #[.int .i64 (K : Int), .int .i64 0, .float .f64 0, .string ⟨#[]⟩, .slice none 0 0, .slice none 0 0] 57)).mono (m := [b, P, w2.heap.size]) (by simp)
    clear h2 hg2 A2
    generalize w2.alloc (.cells #[.int .i64 (K : Int), .int .i64 0, .float .f64 0, .string ⟨#[]⟩, .slice none 0 0, .slice none 0 0] 57) = w3 at *
    generalize w2.heap.size = Q at *
    have hbQ : b ≠ Q := by omega
    have hbP : b ≠ P := by omega
    have hPQ' : P ≠ Q := by omega
    obtain ⟨k3, e3, hgr, hkr, g1, g2⟩ := h3
    have r2 : w3.cell? ⟨b, 2, none⟩ = some (.int .i64 e3) := by rw [Lib.cell_of_heap hgr]; rfl
    have t0 : (e3 != 0) = true := by rw [bne_iff_ne]; exact g2 rfl
    have t1 : (e3 == 0) = false := beq_eq_false_iff_ne.2 (g2 rfl)
    have hr : RdAt b s none (p + 1) w3 := ⟨k3, e3, hgr, hkr, (fun _ h => nomatch h), g2⟩
    have HR := Lib.hid hr
    clear g1 g2 hgr hr
    have q0 : w3.cell? ⟨Q, 0, none⟩ = some (.int .i64 (K : Int)) := by rw [Lib.cell_of_heap hgQ]; rfl
    have q1 : w3.cell? ⟨Q, 1, none⟩ = some (.int .i64 0) := by rw [Lib.cell_of_heap hgQ]; rfl
    have q2 : w3.cell? ⟨Q, 2, none⟩ = some (.float .f64 0) := by rw [Lib.cell_of_heap hgQ]; rfl
    have q3 : w3.cell? ⟨Q, 3, none⟩ = some (.string ⟨#[]⟩) := by rw [Lib.cell_of_heap hgQ]; rfl
    have q4 : w3.cell? ⟨Q, 4, none⟩ = some (.slice none 0 0) := by rw [Lib.cell_of_heap hgQ]; rfl
    have q5 : w3.cell? ⟨Q, 5, none⟩ = some (.slice none 0 0) := by rw [Lib.cell_of_heap hgQ]; rfl
    have e0 : w3.cell? ⟨P, 0, none⟩ = some (.int .i64 0) := by rw [Lib.cell_of_heap hgP]; rfl
    have z0 : w3.frozen? ⟨P, 0, none⟩ = false := Lib.frozen_of_heap hgP 0
    have e1 : w3.cell? ⟨P, 1, none⟩ = some (.int .i64 0) := by rw [Lib.cell_of_heap hgP]; rfl
    have z1 : w3.frozen? ⟨P, 1, none⟩ = false := Lib.frozen_of_heap hgP 1
    have e2 : w3.cell? ⟨P, 2, none⟩ = some (.float .f64 0) := by rw [Lib.cell_of_heap hgP]; rfl
    have z2 : w3.frozen? ⟨P, 2, none⟩ = false := Lib.frozen_of_heap hgP 2
    have e3 : w3.cell? ⟨P, 3, none⟩ = some (.string ⟨#[]⟩) := by rw [Lib.cell_of_heap hgP]; rfl
    have z3 : w3.frozen? ⟨P, 3, none⟩ = false := Lib.frozen_of_heap hgP 3
    have e4 : w3.cell? ⟨P, 4, none⟩ = some (.slice none 0 0) := by rw [Lib.cell_of_heap hgP]; rfl
    have z4 : w3.frozen? ⟨P, 4, none⟩ = false := Lib.frozen_of_heap hgP 4
    have e5 : w3.cell? ⟨P, 5, none⟩ = some (.slice none 0 0) := by rw [Lib.cell_of_heap hgP]; rfl
    have z5 : w3.frozen? ⟨P, 5, none⟩ = false := Lib.frozen_of_heap hgP 5
    go_wp2_with fail
    have hgF : (((((((w3).setCell ⟨P, 0, none⟩ (.int .i64 (K : Int))).setCell ⟨P, 1, none⟩ (.int .i64 0)).setCell ⟨P, 2, none⟩ (.float .f64 0)).setCell ⟨P, 3, none⟩ (.string ⟨#[]⟩)).setCell ⟨P, 4, none⟩ (.slice none 0 0)).setCell ⟨P, 5, none⟩ (.slice none 0 0)).heap[P]? = some (.cells #[.int .i64 (K : Int), .int .i64 0, .float .f64 0, .string ⟨#[]⟩, .slice none 0 0, .slice none 0 0] 57 (0, 0)) := heap_setN (heap_setN (heap_setN (heap_setN (heap_setN (heap_setN hgP 0 _) 1 _) 2 _) 3 _) 4 _) 5 _
    have FF := ((((((Fr.refl [P] w3).setCell ⟨P, 0, none⟩ (by simp) (.int .i64 (K : Int))).setCell ⟨P, 1, none⟩ (by simp) (.int .i64 0)).setCell ⟨P, 2, none⟩ (by simp) (.float .f64 0)).setCell ⟨P, 3, none⟩ (by simp) (.string ⟨#[]⟩)).setCell ⟨P, 4, none⟩ (by simp) (.slice none 0 0)).setCell ⟨P, 5, none⟩ (by simp) (.slice none 0 0)
    clear e0 z0 q0 e1 z1 q1 e2 z2 q2 e3 z3 q3 e4 z4 q4 e5 z5 q5
    generalize ((((((w3).setCell ⟨P, 0, none⟩ (.int .i64 (K : Int))).setCell ⟨P, 1, none⟩ (.int .i64 0)).setCell ⟨P, 2, none⟩ (.float .f64 0)).setCell ⟨P, 3, none⟩ (.string ⟨#[]⟩)).setCell ⟨P, 4, none⟩ (.slice none 0 0)).setCell ⟨P, 5, none⟩ (.slice none 0 0) = X at *
    have y0 : X.cell? ⟨P, 0, none⟩ = some (.int .i64 (K : Int)) := by rw [Lib.cell_of_heap hgF]; rfl
    have y1 : X.cell? ⟨P, 1, none⟩ = some (.int .i64 0) := by rw [Lib.cell_of_heap hgF]; rfl
    have y2 : X.cell? ⟨P, 2, none⟩ = some (.float .f64 0) := by rw [Lib.cell_of_heap hgF]; rfl
    have y3 : X.cell? ⟨P, 3, none⟩ = some (.string ⟨#[]⟩) := by rw [Lib.cell_of_heap hgF]; rfl
    have y4 : X.cell? ⟨P, 4, none⟩ = some (.slice none 0 0) := by rw [Lib.cell_of_heap hgF]; rfl
    have y5 : X.cell? ⟨P, 5, none⟩ = some (.slice none 0 0) := by rw [Lib.cell_of_heap hgF]; rfl
    have hrX := RdAt.kept HR.out FF (by simpa using hbP)
    have hff := (A3.trans (FF.mono (m := [b, P, Q]) (by simp))).fewer3 (by have := HP.out; omega) (by have := HP.out; omega)
    refine bodyPost_ret (v := .agg #[.int .i64 (K : Int), .int .i64 0, .float .f64 0, .string ⟨#[]⟩, .slice none 0 0, .slice none 0 0]) (by simp [results, Tryz.results86, go_sem, y0, y1, y2, y3, y4, y5]) rfl ?_
    exact ⟨.mk K 0 0 [] [] [], _, p + 1, none, rfl, ValIn.leaf (t := []) (by omega) (by omega) (by unfold F64; omega) (by simp) f, hrX, hff, rfl⟩
  | some l2 =>
    have hK2 : K < 1 ∨ 6 < K := by rcases hn with h | h; cases h; exact h
    clear hn
    by_cases k1 : K < 1
    · have t1 : decide ((K : Int) < 1) = true := by simp; omega
      have t1' : K < 1 := k1
      clear hK2
      have hsf : ∀ (a : Addr) (x : Nat) (m : Mode) (w : World), (store a (.float .f64 x) m).run Tryz.prog w = stored Tryz.prog w a (.float .f64 x) m := fun a x m w => run_store _ w a _ m rfl
      have hbl := h.lt
      have h0 := h.below ((Below.refl _ _).alloc (Nat.le_refl _) (.cells #[.int .i64 0, .int .i64 0, .float .f64 0, .string ⟨#[]⟩, .slice none 0 0, .slice none 0 0] 57))
      have hg0 : (w.alloc (.cells #[.int .i64 0, .int .i64 0, .float .f64 0, .string ⟨#[]⟩, .slice none 0 0, .slice none 0 0] 57)).heap[w.heap.size]? = some (.cells #[.int .i64 0, .int .i64 0, .float .f64 0, .string ⟨#[]⟩, .slice none 0 0, .slice none 0 0] 57 (0, 0)) := heap_alloc_new w _
      have hf0 := (Fr.refl [b] w).alloc (.cells #[.int .i64 0, .int .i64 0, .float .f64 0, .string ⟨#[]⟩, .slice none 0 0, .slice none 0 0] 57)
      have HB := Lib.hid (fun w h => rbegin_any dn b p (by omega) s st w h)
      have HY := Lib.hid (fun w h => (show Calls Tryz.prog 56 #[.pointer (some ⟨b, 0, none⟩)] w (RdCall b s (p + 1) w (.int .i64 (K : Int), some l2)) from by
        have := rbyte_any b (p + 1) s hs (begR dn p st) w h
        rw [hkc] at this; exact this))
      clear h
      generalize hgh : w.heap.size = P at *
      have HP := Lib.hid hgh; clear hgh
      have hnP : P ∉ [b] := by simp; omega
      go_enter Tryz.func86, Tryz.ntmps86
      go_wp2_with fail
      rw [HP.out]
      generalize w.alloc (.cells #[.int .i64 0, .int .i64 0, .float .f64 0, .string ⟨#[]⟩, .slice none 0 0, .slice none 0 0] 57) = W0 at *
      refine (HB.out _ h0).mono ?_; rintro e w1 ⟨rfl, h1, hf1⟩
      have hg1 := hf1.at hg0 hnP
      have A1 := hf0.trans hf1
      clear h0 hg0 hf1 hf0
      go_wp2_with fail
      refine (HY.out _ h1).mono ?_; rintro e w2 ⟨rfl, h2, hf2⟩
      dsimp only at h2 ⊢
      have hg2 := hf2.at hg1 hnP
      have A2 := A1.trans hf2
      clear h1 hg1 hf2 A1
      go_upto_region 3 with (fail)
      have hgQ : (w2.alloc (.cells #[.int .i64 (K : Int), .int .i64 0, .float .f64 0, .string ⟨#[]⟩, .slice none 0 0, .slice none 0 0] 57)).heap[w2.heap.size]? = some (.cells #[.int .i64 (K : Int), .int .i64 0, .float .f64 0, .string ⟨#[]⟩, .slice none 0 0, .slice none 0 0] 57 (0, 0)) := heap_alloc_new w2 _
      have hPQ : P < w2.heap.size := lt_of_block hg2
      have hgP := (Lib.alloc_old w2 (.cells #[.int .i64 (K : Int), .int .i64 0, .float .f64 0, .string ⟨#[]⟩, .slice none 0 0, .slice none 0 0] 57) P hPQ).trans hg2
      have h3 := h2.below ((Below.refl _ _).alloc (Nat.le_refl _) (.cells #[.int .i64 (K : Int), .int .i64 0, .float .f64 0, .string ⟨#[]⟩, .slice none 0 0, .slice none 0 0] 57))
      have A3 := (A2.alloc (.cells #[.int .i64 (K : Int), .int .i64 0, .float .f64 0, .string ⟨#[]⟩, .slice none 0 0, .slice none 0 0] 57)).mono (m := [b, P, w2.heap.size]) (by simp)
      clear h2 hg2 A2
      generalize w2.alloc (.cells #[.int .i64 (K : Int), .int .i64 0, .float .f64 0, .string ⟨#[]⟩, .slice none 0 0, .slice none 0 0] 57) = w3 at *
      generalize w2.heap.size = Q at *
      have hbQ : b ≠ Q := by omega
      have hbP : b ≠ P := by omega
      have hPQ' : P ≠ Q := by omega
      obtain ⟨k3, e3, hgr, hkr, g1, g2⟩ := h3
      have r2 : w3.cell? ⟨b, 2, none⟩ = some (.int .i64 e3) := by rw [Lib.cell_of_heap hgr]; rfl
      obtain ⟨h1, hl1⟩ := g1 _ rfl
      subst h1
      have hr : RdAt b s (some l2) (p + 1) w3 := ⟨k3, 0, hgr, hkr, (fun l h => by cases h; exact ⟨rfl, hl1⟩), (fun h => nomatch h)⟩
      have HR := Lib.hid hr
      clear g1 g2 hgr hr hl1
      have q0 : w3.cell? ⟨Q, 0, none⟩ = some (.int .i64 (K : Int)) := by rw [Lib.cell_of_heap hgQ]; rfl
      have q1 : w3.cell? ⟨Q, 1, none⟩ = some (.int .i64 0) := by rw [Lib.cell_of_heap hgQ]; rfl
      have q2 : w3.cell? ⟨Q, 2, none⟩ = some (.float .f64 0) := by rw [Lib.cell_of_heap hgQ]; rfl
      have q3 : w3.cell? ⟨Q, 3, none⟩ = some (.string ⟨#[]⟩) := by rw [Lib.cell_of_heap hgQ]; rfl
      have q4 : w3.cell? ⟨Q, 4, none⟩ = some (.slice none 0 0) := by rw [Lib.cell_of_heap hgQ]; rfl
      have q5 : w3.cell? ⟨Q, 5, none⟩ = some (.slice none 0 0) := by rw [Lib.cell_of_heap hgQ]; rfl
      go_wp2_with fail
      refine (HF.out _ _ HR.out).mono ?_; rintro e w4 ⟨rfl, h4, hf4⟩
      have hgP4 := hf4.at hgP hnP
      have hgQ4 := hf4.at hgQ (by simp; omega)
      have A4 := A3.trans (hf4.mono (m := [b, P, Q]) (by simp))
      clear hgP hgQ A3 r2 q0 q1 q2 q3 q4 q5 hf4 HR hkr
      obtain ⟨k4, e4, hgr, hkr, g1, g2⟩ := h4
      have r2 : w4.cell? ⟨b, 2, none⟩ = some (.int .i64 e4) := by rw [Lib.cell_of_heap hgr]; rfl
      have t0 : (e4 != 0) = true := by rw [bne_iff_ne]; exact g2 rfl
      have t9 : (e4 == 0) = false := beq_eq_false_iff_ne.2 (g2 rfl)
      have hr : RdAt b s none (p + 1) w4 := ⟨k4, e4, hgr, hkr, (fun _ h => nomatch h), g2⟩
      have HR := Lib.hid hr
      clear g1 g2 hgr hr
      have q0 : w4.cell? ⟨Q, 0, none⟩ = some (.int .i64 (K : Int)) := by rw [Lib.cell_of_heap hgQ4]; rfl
      have q1 : w4.cell? ⟨Q, 1, none⟩ = some (.int .i64 0) := by rw [Lib.cell_of_heap hgQ4]; rfl
      have q2 : w4.cell? ⟨Q, 2, none⟩ = some (.float .f64 0) := by rw [Lib.cell_of_heap hgQ4]; rfl
      have q3 : w4.cell? ⟨Q, 3, none⟩ = some (.string ⟨#[]⟩) := by rw [Lib.cell_of_heap hgQ4]; rfl
      have q4 : w4.cell? ⟨Q, 4, none⟩ = some (.slice none 0 0) := by rw [Lib.cell_of_heap hgQ4]; rfl
      have q5 : w4.cell? ⟨Q, 5, none⟩ = some (.slice none 0 0) := by rw [Lib.cell_of_heap hgQ4]; rfl
      have e0 : w4.cell? ⟨P, 0, none⟩ = some (.int .i64 0) := by rw [Lib.cell_of_heap hgP4]; rfl
      have z0 : w4.frozen? ⟨P, 0, none⟩ = false := Lib.frozen_of_heap hgP4 0
      have e1 : w4.cell? ⟨P, 1, none⟩ = some (.int .i64 0) := by rw [Lib.cell_of_heap hgP4]; rfl
      have z1 : w4.frozen? ⟨P, 1, none⟩ = false := Lib.frozen_of_heap hgP4 1
      have e2 : w4.cell? ⟨P, 2, none⟩ = some (.float .f64 0) := by rw [Lib.cell_of_heap hgP4]; rfl
      have z2 : w4.frozen? ⟨P, 2, none⟩ = false := Lib.frozen_of_heap hgP4 2
      have e3 : w4.cell? ⟨P, 3, none⟩ = some (.string ⟨#[]⟩) := by rw [Lib.cell_of_heap hgP4]; rfl
      have z3 : w4.frozen? ⟨P, 3, none⟩ = false := Lib.frozen_of_heap hgP4 3
      have e4 : w4.cell? ⟨P, 4, none⟩ = some (.slice none 0 0) := by rw [Lib.cell_of_heap hgP4]; rfl
      have z4 : w4.frozen? ⟨P, 4, none⟩ = false := Lib.frozen_of_heap hgP4 4
      have e5 : w4.cell? ⟨P, 5, none⟩ = some (.slice none 0 0) := by rw [Lib.cell_of_heap hgP4]; rfl
      have z5 : w4.frozen? ⟨P, 5, none⟩ = false := Lib.frozen_of_heap hgP4 5
      go_wp2_with fail
      have hgF : (((((((w4).setCell ⟨P, 0, none⟩ (.int .i64 (K : Int))).setCell ⟨P, 1, none⟩ (.int .i64 0)).setCell ⟨P, 2, none⟩ (.float .f64 0)).setCell ⟨P, 3, none⟩ (.string ⟨#[]⟩)).setCell ⟨P, 4, none⟩ (.slice none 0 0)).setCell ⟨P, 5, none⟩ (.slice none 0 0)).heap[P]? = some (.cells #[.int .i64 (K : Int), .int .i64 0, .float .f64 0, .string ⟨#[]⟩, .slice none 0 0, .slice none 0 0] 57 (0, 0)) := heap_setN (heap_setN (heap_setN (heap_setN (heap_setN (heap_setN hgP4 0 _) 1 _) 2 _) 3 _) 4 _) 5 _
      have FF := ((((((Fr.refl [P] w4).setCell ⟨P, 0, none⟩ (by simp) (.int .i64 (K : Int))).setCell ⟨P, 1, none⟩ (by simp) (.int .i64 0)).setCell ⟨P, 2, none⟩ (by simp) (.float .f64 0)).setCell ⟨P, 3, none⟩ (by simp) (.string ⟨#[]⟩)).setCell ⟨P, 4, none⟩ (by simp) (.slice none 0 0)).setCell ⟨P, 5, none⟩ (by simp) (.slice none 0 0)
      clear e0 z0 q0 e1 z1 q1 e2 z2 q2 e3 z3 q3 e4 z4 q4 e5 z5 q5
      generalize ((((((w4).setCell ⟨P, 0, none⟩ (.int .i64 (K : Int))).setCell ⟨P, 1, none⟩ (.int .i64 0)).setCell ⟨P, 2, none⟩ (.float .f64 0)).setCell ⟨P, 3, none⟩ (.string ⟨#[]⟩)).setCell ⟨P, 4, none⟩ (.slice none 0 0)).setCell ⟨P, 5, none⟩ (.slice none 0 0) = X at *
      have y0 : X.cell? ⟨P, 0, none⟩ = some (.int .i64 (K : Int)) := by rw [Lib.cell_of_heap hgF]; rfl
      have y1 : X.cell? ⟨P, 1, none⟩ = some (.int .i64 0) := by rw [Lib.cell_of_heap hgF]; rfl
      have y2 : X.cell? ⟨P, 2, none⟩ = some (.float .f64 0) := by rw [Lib.cell_of_heap hgF]; rfl
      have y3 : X.cell? ⟨P, 3, none⟩ = some (.string ⟨#[]⟩) := by rw [Lib.cell_of_heap hgF]; rfl
      have y4 : X.cell? ⟨P, 4, none⟩ = some (.slice none 0 0) := by rw [Lib.cell_of_heap hgF]; rfl
      have y5 : X.cell? ⟨P, 5, none⟩ = some (.slice none 0 0) := by rw [Lib.cell_of_heap hgF]; rfl
      have hrX := RdAt.kept HR.out FF (by simpa using hbP)
      have hff := (A4.trans (FF.mono (m := [b, P, Q]) (by simp))).fewer3 (by have := HP.out; omega) (by have := HP.out; omega)
      refine bodyPost_ret (v := .agg #[.int .i64 (K : Int), .int .i64 0, .float .f64 0, .string ⟨#[]⟩, .slice none 0 0, .slice none 0 0]) (by simp [results, Tryz.results86, go_sem, y0, y1, y2, y3, y4, y5]) rfl ?_
      exact ⟨.mk K 0 0 [] [] [], _, p + 1, none, rfl, ValIn.leaf (t := []) (by omega) (by omega) (by unfold F64; omega) (by simp) f, hrX, hff, rfl⟩
    · have t1 : decide ((K : Int) < 1) = false := by simp; omega
      have t1' : ¬ K < 1 := k1
      have t2 : decide ((6 : Int) < (K : Int)) = true := by simp; omega
      have t2' : 6 < K := by omega
      clear hK2
      have hsf : ∀ (a : Addr) (x : Nat) (m : Mode) (w : World), (store a (.float .f64 x) m).run Tryz.prog w = stored Tryz.prog w a (.float .f64 x) m := fun a x m w => run_store _ w a _ m rfl
      have hbl := h.lt
      have h0 := h.below ((Below.refl _ _).alloc (Nat.le_refl _) (.cells #[.int .i64 0, .int .i64 0, .float .f64 0, .string ⟨#[]⟩, .slice none 0 0, .slice none 0 0] 57))
      have hg0 : (w.alloc (.cells #[.int .i64 0, .int .i64 0, .float .f64 0, .string ⟨#[]⟩, .slice none 0 0, .slice none 0 0] 57)).heap[w.heap.size]? = some (.cells #[.int .i64 0, .int .i64 0, .float .f64 0, .string ⟨#[]⟩, .slice none 0 0, .slice none 0 0] 57 (0, 0)) := heap_alloc_new w _
      have hf0 := (Fr.refl [b] w).alloc (.cells #[.int .i64 0, .int .i64 0, .float .f64 0, .string ⟨#[]⟩, .slice none 0 0, .slice none 0 0] 57)
      have HB := Lib.hid (fun w h => rbegin_any dn b p (by omega) s st w h)
      have HY := Lib.hid (fun w h => (show Calls Tryz.prog 56 #[.pointer (some ⟨b, 0, none⟩)] w (RdCall b s (p + 1) w (.int .i64 (K : Int), some l2)) from by
        have := rbyte_any b (p + 1) s hs (begR dn p st) w h
        rw [hkc] at this; exact this))
      clear h
      generalize hgh : w.heap.size = P at *
      have HP := Lib.hid hgh; clear hgh
      have hnP : P ∉ [b] := by simp; omega
      go_enter Tryz.func86, Tryz.ntmps86
      go_wp2_with fail
      rw [HP.out]
      generalize w.alloc (.cells #[.int .i64 0, .int .i64 0, .float .f64 0, .string ⟨#[]⟩, .slice none 0 0, .slice none 0 0] 57) = W0 at *
      refine (HB.out _ h0).mono ?_; rintro e w1 ⟨rfl, h1, hf1⟩
      have hg1 := hf1.at hg0 hnP
      have A1 := hf0.trans hf1
      clear h0 hg0 hf1 hf0
      go_wp2_with fail
      refine (HY.out _ h1).mono ?_; rintro e w2 ⟨rfl, h2, hf2⟩
      dsimp only at h2 ⊢
      have hg2 := hf2.at hg1 hnP
      have A2 := A1.trans hf2
      clear h1 hg1 hf2 A1
      go_upto_region 3 with (fail)
      have hgQ : (w2.alloc (.cells #[.int .i64 (K : Int), .int .i64 0, .float .f64 0, .string ⟨#[]⟩, .slice none 0 0, .slice none 0 0] 57)).heap[w2.heap.size]? = some (.cells #[.int .i64 (K : Int), .int .i64 0, .float .f64 0, .string ⟨#[]⟩, .slice none 0 0, .slice none 0 0] 57 (0, 0)) := heap_alloc_new w2 _
      have hPQ : P < w2.heap.size := lt_of_block hg2
      have hgP := (Lib.alloc_old w2 (.cells #[.int .i64 (K : Int), .int .i64 0, .float .f64 0, .string ⟨#[]⟩, .slice none 0 0, .slice none 0 0] 57) P hPQ).trans hg2
      have h3 := h2.below ((Below.refl _ _).alloc (Nat.le_refl _) (.cells #[.int .i64 (K : Int), .int .i64 0, .float .f64 0, .string ⟨#[]⟩, .slice none 0 0, .slice none 0 0] 57))
      have A3 := (A2.alloc (.cells #[.int .i64 (K : Int), .int .i64 0, .float .f64 0, .string ⟨#[]⟩, .slice none 0 0, .slice none 0 0] 57)).mono (m := [b, P, w2.heap.size]) (by simp)
      clear h2 hg2 A2
      generalize w2.alloc (.cells #[.int .i64 (K : Int), .int .i64 0, .float .f64 0, .string ⟨#[]⟩, .slice none 0 0, .slice none 0 0] 57) = w3 at *
      generalize w2.heap.size = Q at *
      have hbQ : b ≠ Q := by omega
      have hbP : b ≠ P := by omega
      have hPQ' : P ≠ Q := by omega
      obtain ⟨k3, e3, hgr, hkr, g1, g2⟩ := h3
      have r2 : w3.cell? ⟨b, 2, none⟩ = some (.int .i64 e3) := by rw [Lib.cell_of_heap hgr]; rfl
      obtain ⟨h1, hl1⟩ := g1 _ rfl
      subst h1
      have hr : RdAt b s (some l2) (p + 1) w3 := ⟨k3, 0, hgr, hkr, (fun l h => by cases h; exact ⟨rfl, hl1⟩), (fun h => nomatch h)⟩
      have HR := Lib.hid hr
      clear g1 g2 hgr hr hl1
      have q0 : w3.cell? ⟨Q, 0, none⟩ = some (.int .i64 (K : Int)) := by rw [Lib.cell_of_heap hgQ]; rfl
      have q1 : w3.cell? ⟨Q, 1, none⟩ = some (.int .i64 0) := by rw [Lib.cell_of_heap hgQ]; rfl
      have q2 : w3.cell? ⟨Q, 2, none⟩ = some (.float .f64 0) := by rw [Lib.cell_of_heap hgQ]; rfl
      have q3 : w3.cell? ⟨Q, 3, none⟩ = some (.string ⟨#[]⟩) := by rw [Lib.cell_of_heap hgQ]; rfl
      have q4 : w3.cell? ⟨Q, 4, none⟩ = some (.slice none 0 0) := by rw [Lib.cell_of_heap hgQ]; rfl
      have q5 : w3.cell? ⟨Q, 5, none⟩ = some (.slice none 0 0) := by rw [Lib.cell_of_heap hgQ]; rfl
      go_wp2_with fail
      refine (HF.out _ _ HR.out).mono ?_; rintro e w4 ⟨rfl, h4, hf4⟩
      have hgP4 := hf4.at hgP hnP
      have hgQ4 := hf4.at hgQ (by simp; omega)
      have A4 := A3.trans (hf4.mono (m := [b, P, Q]) (by simp))
      clear hgP hgQ A3 r2 q0 q1 q2 q3 q4 q5 hf4 HR hkr
      obtain ⟨k4, e4, hgr, hkr, g1, g2⟩ := h4
      have r2 : w4.cell? ⟨b, 2, none⟩ = some (.int .i64 e4) := by rw [Lib.cell_of_heap hgr]; rfl
      have t0 : (e4 != 0) = true := by rw [bne_iff_ne]; exact g2 rfl
      have t9 : (e4 == 0) = false := beq_eq_false_iff_ne.2 (g2 rfl)
      have hr : RdAt b s none (p + 1) w4 := ⟨k4, e4, hgr, hkr, (fun _ h => nomatch h), g2⟩
      have HR := Lib.hid hr
      clear g1 g2 hgr hr
      have q0 : w4.cell? ⟨Q, 0, none⟩ = some (.int .i64 (K : Int)) := by rw [Lib.cell_of_heap hgQ4]; rfl
      have q1 : w4.cell? ⟨Q, 1, none⟩ = some (.int .i64 0) := by rw [Lib.cell_of_heap hgQ4]; rfl
      have q2 : w4.cell? ⟨Q, 2, none⟩ = some (.float .f64 0) := by rw [Lib.cell_of_heap hgQ4]; rfl
      have q3 : w4.cell? ⟨Q, 3, none⟩ = some (.string ⟨#[]⟩) := by rw [Lib.cell_of_heap hgQ4]; rfl
      have q4 : w4.cell? ⟨Q, 4, none⟩ = some (.slice none 0 0) := by rw [Lib.cell_of_heap hgQ4]; rfl
      have q5 : w4.cell? ⟨Q, 5, none⟩ = some (.slice none 0 0) := by rw [Lib.cell_of_heap hgQ4]; rfl
      have e0 : w4.cell? ⟨P, 0, none⟩ = some (.int .i64 0) := by rw [Lib.cell_of_heap hgP4]; rfl
      have z0 : w4.frozen? ⟨P, 0, none⟩ = false := Lib.frozen_of_heap hgP4 0
      have e1 : w4.cell? ⟨P, 1, none⟩ = some (.int .i64 0) := by rw [Lib.cell_of_heap hgP4]; rfl
      have z1 : w4.frozen? ⟨P, 1, none⟩ = false := Lib.frozen_of_heap hgP4 1
      have e2 : w4.cell? ⟨P, 2, none⟩ = some (.float .f64 0) := by rw [Lib.cell_of_heap hgP4]; rfl
      have z2 : w4.frozen? ⟨P, 2, none⟩ = false := Lib.frozen_of_heap hgP4 2
      have e3 : w4.cell? ⟨P, 3, none⟩ = some (.string ⟨#[]⟩) := by rw [Lib.cell_of_heap hgP4]; rfl
      have z3 : w4.frozen? ⟨P, 3, none⟩ = false := Lib.frozen_of_heap hgP4 3
      have e4 : w4.cell? ⟨P, 4, none⟩ = some (.slice none 0 0) := by rw [Lib.cell_of_heap hgP4]; rfl
      have z4 : w4.frozen? ⟨P, 4, none⟩ = false := Lib.frozen_of_heap hgP4 4
      have e5 : w4.cell? ⟨P, 5, none⟩ = some (.slice none 0 0) := by rw [Lib.cell_of_heap hgP4]; rfl
      have z5 : w4.frozen? ⟨P, 5, none⟩ = false := Lib.frozen_of_heap hgP4 5
      go_wp2_with fail
      have hgF : (((((((w4).setCell ⟨P, 0, none⟩ (.int .i64 (K : Int))).setCell ⟨P, 1, none⟩ (.int .i64 0)).setCell ⟨P, 2, none⟩ (.float .f64 0)).setCell ⟨P, 3, none⟩ (.string ⟨#[]⟩)).setCell ⟨P, 4, none⟩ (.slice none 0 0)).setCell ⟨P, 5, none⟩ (.slice none 0 0)).heap[P]? = some (.cells #[.int .i64 (K : Int), .int .i64 0, .float .f64 0, .string ⟨#[]⟩, .slice none 0 0, .slice none 0 0] 57 (0, 0)) := heap_setN (heap_setN (heap_setN (heap_setN (heap_setN (heap_setN hgP4 0 _) 1 _) 2 _) 3 _) 4 _) 5 _
      have FF := ((((((Fr.refl [P] w4).setCell ⟨P, 0, none⟩ (by simp) (.int .i64 (K : Int))).setCell ⟨P, 1, none⟩ (by simp) (.int .i64 0)).setCell ⟨P, 2, none⟩ (by simp) (.float .f64 0)).setCell ⟨P, 3, none⟩ (by simp) (.string ⟨#[]⟩)).setCell ⟨P, 4, none⟩ (by simp) (.slice none 0 0)).setCell ⟨P, 5, none⟩ (by simp) (.slice none 0 0)
      clear e0 z0 q0 e1 z1 q1 e2 z2 q2 e3 z3 q3 e4 z4 q4 e5 z5 q5
      generalize ((((((w4).setCell ⟨P, 0, none⟩ (.int .i64 (K : Int))).setCell ⟨P, 1, none⟩ (.int .i64 0)).setCell ⟨P, 2, none⟩ (.float .f64 0)).setCell ⟨P, 3, none⟩ (.string ⟨#[]⟩)).setCell ⟨P, 4, none⟩ (.slice none 0 0)).setCell ⟨P, 5, none⟩ (.slice none 0 0) = X at *
      have y0 : X.cell? ⟨P, 0, none⟩ = some (.int .i64 (K : Int)) := by rw [Lib.cell_of_heap hgF]; rfl
      have y1 : X.cell? ⟨P, 1, none⟩ = some (.int .i64 0) := by rw [Lib.cell_of_heap hgF]; rfl
      have y2 : X.cell? ⟨P, 2, none⟩ = some (.float .f64 0) := by rw [Lib.cell_of_heap hgF]; rfl
      have y3 : X.cell? ⟨P, 3, none⟩ = some (.string ⟨#[]⟩) := by rw [Lib.cell_of_heap hgF]; rfl
      have y4 : X.cell? ⟨P, 4, none⟩ = some (.slice none 0 0) := by rw [Lib.cell_of_heap hgF]; rfl
      have y5 : X.cell? ⟨P, 5, none⟩ = some (.slice none 0 0) := by rw [Lib.cell_of_heap hgF]; rfl
      have hrX := RdAt.kept HR.out FF (by simpa using hbP)
      have hff := (A4.trans (FF.mono (m := [b, P, Q]) (by simp))).fewer3 (by have := HP.out; omega) (by have := HP.out; omega)
      refine bodyPost_ret (v := .agg #[.int .i64 (K : Int), .int .i64 0, .float .f64 0, .string ⟨#[]⟩, .slice none 0 0, .slice none 0 0]) (by simp [results, Tryz.results86, go_sem, y0, y1, y2, y3, y4, y5]) rfl ?_
      exact ⟨.mk K 0 0 [] [] [], _, p + 1, none, rfl, ValIn.leaf (t := []) (by omega) (by omega) (by unfold F64; omega) (by simp) f, hrX, hff, rfl⟩
end Go.Proofs.YtnaamiecljinnaaGreat
