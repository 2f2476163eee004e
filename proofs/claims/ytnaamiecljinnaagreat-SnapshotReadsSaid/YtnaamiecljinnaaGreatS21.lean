/-
  G5 in one text.
-/
import Derived.Below
import Derived.BigQuiet
import Derived.Deep.AppendLies
import Derived.Deep.Cut
import Derived.Deep.CutBlock
import Derived.Deep.DeepCutAuto
import Derived.Deep.QuietTactic
import Derived.Deep.RegionHeld3
import Derived.Deep.RegionLaw
import Derived.Deep.RegionWith
import Derived.Defers
import Derived.Handy
import Derived.IntWalk
import Derived.Laws.Bits64b
import Derived.Laws.FloatBits
import Derived.Lib.AtoiAll
import Derived.Lib.Builder
import Derived.Lib.Bytes
import Derived.Lib.ConvBytes
import Derived.Lib.FrozenHead2
import Derived.Lib.Hide
import Derived.Lib.IndexMore
import Derived.Lib.ItoaNum
import Derived.Lib.MinMax
import Derived.Lib.OthersKept
import Derived.Lib.ParseIntB
import Derived.Lib.UnsafeStr
import Derived.LoopTactic
import Derived.OneCell
import Derived.OwnWalk
import Derived.Recover
import Derived.RegionTactic
import Derived.Shelf.Abstract
import Derived.StillTailTactics
import Derived.Tactics
import Derived.Tactics2
import Derived.Test.YtnaamiecljinnaaGreatChecked
import Derived.WalkKit
import Derived.WalkLawsBesides
import Derived.WalkSpells
import Ieee.Arith
import Derived.Test.YtnaamiecljinnaaGreatS00
import Derived.Test.YtnaamiecljinnaaGreatS02
import Derived.Test.YtnaamiecljinnaaGreatS08
import Derived.Test.YtnaamiecljinnaaGreatS19
import Derived.Test.YtnaamiecljinnaaGreatS20
namespace Go.Proofs.YtnaamiecljinnaaGreat
open Go.RowKit
set_option maxRecDepth 100000 in
set_option maxHeartbeats 8000000 in
theorem rvalue_2 (s : ByteArray) (hs : s.size ≤ 1000000) (b : Nat) (st : Option (List UInt8)) (p f dn : Nat) (hp : p ≤ 200) (l2 : List UInt8) (hkc : outR 0 ((begR dn p st).bind byteR) = (2, some l2)) (w : World) (h : RdAt b s st p w) :
    Calls Tryz.prog 86 #[.pointer (some ⟨b, 0, none⟩), .int .i64 (dn : Int)] w (RVal b s f w ((rdInt l2).map fun r => (.mk 2 r.1 0 [] [] [], p + 1, r.2))) := by
  have hC := fun w h => rintR_any b (p + 1) s hs (some l2) w h
  have hC2 : ∀ w, RdAt b s (some l2) (p + 1) w → Calls Tryz.prog 121 #[.pointer (some ⟨b, 0, none⟩)] w (RdCall b s (p + 1) w ((fun x => ((.int .i64 x.1), x.2)) (outR 0 (rdInt l2)))) := hC
  clear hC
  generalize hx : outR 0 (rdInt l2) = xx at *
  obtain ⟨x, st3⟩ := xx
  have hbx : -9223372036854775808 ≤ x ∧ x ≤ 9223372036854775807 := by
    have h := rdU_lt (some l2)
    have e := rdInt_of (some l2)
    have e2 : outR 0 ((some l2).bind rdInt) = (x, st3) := hx
    rw [e2] at e
    have e3 : x = zag (outR 0 ((some l2).bind rdU)).1 := congrArg Prod.fst e
    rw [e3]; exact zag_in h
  have hN : ∀ (q : Nat), (match (rdInt l2).map fun r => ((.mk 2 r.1 0 [] [] [] : VT), p + 1, r.2) with | some y => (.mk 2 x 0 [] [] [] : VT) = y.1 ∧ p + 1 = y.2.1 ∧ st3 = some y.2.2 | none => st3 = none) := fun _ => by
    cases hr : rdInt l2 with
    | none => rw [hr] at hx; exact (congrArg Prod.snd hx).symm
    | some r => rw [hr] at hx; injection hx with hx1 hx2; subst hx1; exact ⟨rfl, rfl, hx2.symm⟩
  have HC := Lib.hid hC2; have HN := Lib.hid (hN 0)
  clear hC2 hN hx
  have hsf : ∀ (a : Addr) (x : Nat) (m : Mode) (w : World), (store a (.float .f64 x) m).run Tryz.prog w = stored Tryz.prog w a (.float .f64 x) m := fun a x m w => run_store _ w a _ m rfl
  have hbl := h.lt
  have h0 := h.below ((Below.refl _ _).alloc (Nat.le_refl _) (.cells #[.int .i64 0, .int .i64 0, .float .f64 0, .string ⟨#[]⟩, .slice none 0 0, .slice none 0 0] 57))
  have hg0 : (w.alloc (.cells #[.int .i64 0, .int .i64 0, .float .f64 0, .string ⟨#[]⟩, .slice none 0 0, .slice none 0 0] 57)).heap[w.heap.size]? = some (.cells #[.int .i64 0, .int .i64 0, .float .f64 0, .string ⟨#[]⟩, .slice none 0 0, .slice none 0 0] 57 (0, 0)) := heap_alloc_new w _
  have hf0 := (Fr.refl [b] w).alloc (.cells #[.int .i64 0, .int .i64 0, .float .f64 0, .string ⟨#[]⟩, .slice none 0 0, .slice none 0 0] 57)
  have HB := Lib.hid (fun w h => rbegin_any dn b p (by omega) s st w h)
  have HY := Lib.hid (fun w h => (show Calls Tryz.prog 56 #[.pointer (some ⟨b, 0, none⟩)] w (RdCall b s (p + 1) w (.int .i64 2, some l2)) from by
    have := rbyte_any b (p + 1) s hs (begR dn p st) w h
    rw [hkc] at this; exact this))
  clear h
  generalize hgh : w.heap.size = P at *
  have HP := Lib.hid hgh; clear hgh
  have hnP : P ∉ [b] := by simp; omega
  go_enter Tryz.func86, Tryz.ntmps86
  go_wp2_with fail
  rw [HP.out]
  generalize w.alloc (.cells #[.int .i64 0, .int .i64 0, .float .f64 0, .string ⟨#[]⟩, .slice none 0 0, .slice none 0 0] 57) = W0 at *
  refine (HB.out _ h0).mono ?_; rintro e w1 ⟨rfl, h1, hf1⟩
  have hg1 := hf1.at hg0 hnP
  have A1 := hf0.trans hf1
  clear h0 hg0 hf1 hf0
  go_wp2_with fail
  refine (HY.out _ h1).mono ?_; rintro e w2 ⟨rfl, h2, hf2⟩
  dsimp only at h2 ⊢
  have hg2 := hf2.at hg1 hnP
  have A2 := A1.trans hf2
  clear h1 hg1 hf2 A1
  go_upto_region 3 with (fail)
  have hgQ : (w2.alloc (.cells #[.int .i64 2, .int .i64 0, .float .f64 0, .string ⟨#[]⟩, .slice none 0 0, .slice none 0 0] 57)).heap[w2.heap.size]? = some (.cells #[.int .i64 2, .int .i64 0, .float .f64 0, .string ⟨#[]⟩, .slice none 0 0, .slice none 0 0] 57 (0, 0)) := heap_alloc_new w2 _
  have hPQ : P < w2.heap.size := lt_of_block hg2
  have hgP := (Lib.alloc_old w2 (.cells #[.int .i64 2, .int .i64 0, .float .f64 0, .string ⟨#[]⟩, .slice none 0 0, .slice none 0 0] 57) P hPQ).trans hg2
  have h3 := h2.below ((Below.refl _ _).alloc (Nat.le_refl _) (.cells #[.int .i64 2, .int .i64 0, .float .f64 0, .string ⟨#[]⟩, .slice none 0 0, .slice none 0 0] 57))
  have A3 := (A2.alloc (.cells #[.int .i64 2, .int .i64 0, .float .f64 0, .string ⟨#[]⟩, .slice none 0 0, .slice none 0 0] 57)).mono (m := [b, P, w2.heap.size]) (by simp)
  clear h2 hg2 A2
  generalize w2.alloc (.cells #[.int .i64 2, .int .i64 0, .float .f64 0, .string ⟨#[]⟩, .slice none 0 0, .slice none 0 0] 57) = w3 at *
  generalize w2.heap.size = Q at *
  have hbQ : b ≠ Q := by omega
  have hbP : b ≠ P := by omega
  have hPQ' : P ≠ Q := by omega
  obtain ⟨k3, e3, hgr, hkr, g1, g2⟩ := h3
  have r2 : w3.cell? ⟨b, 2, none⟩ = some (.int .i64 e3) := by rw [Lib.cell_of_heap hgr]; rfl
  obtain ⟨h1, hl1⟩ := g1 _ rfl
  subst h1
  have hr : RdAt b s (some l2) (p + 1) w3 := ⟨k3, 0, hgr, hkr, (fun l h => by cases h; exact ⟨rfl, hl1⟩), (fun h => nomatch h)⟩
  have HR := Lib.hid hr
  clear g1 g2 hgr hr hl1
  have q0 : w3.cell? ⟨Q, 0, none⟩ = some (.int .i64 2) := by rw [Lib.cell_of_heap hgQ]; rfl
  have q1 : w3.cell? ⟨Q, 1, none⟩ = some (.int .i64 0) := by rw [Lib.cell_of_heap hgQ]; rfl
  have q2 : w3.cell? ⟨Q, 2, none⟩ = some (.float .f64 0) := by rw [Lib.cell_of_heap hgQ]; rfl
  have q3 : w3.cell? ⟨Q, 3, none⟩ = some (.string ⟨#[]⟩) := by rw [Lib.cell_of_heap hgQ]; rfl
  have q4 : w3.cell? ⟨Q, 4, none⟩ = some (.slice none 0 0) := by rw [Lib.cell_of_heap hgQ]; rfl
  have q5 : w3.cell? ⟨Q, 5, none⟩ = some (.slice none 0 0) := by rw [Lib.cell_of_heap hgQ]; rfl
  go_wp2_with fail
  refine (HC.out _ HR.out).mono ?_; rintro e w4 ⟨rfl, h4, hf4⟩
  dsimp only at h4 ⊢
  have hgP4 := hf4.at hgP hnP
  have hgQ4 := hf4.at hgQ (by simp; omega)
  have A4 := A3.trans (hf4.mono (m := [b, P, Q]) (by simp))
  clear hgP hgQ A3 r2 q0 q1 q2 q3 q4 q5 hf4 HR hkr
  have x1 : w4.frozen? ⟨Q, 1, none⟩ = false := Lib.frozen_of_heap hgQ4 1
  have q1 : w4.cell? ⟨Q, 1, none⟩ = some (.int .i64 0) := by rw [Lib.cell_of_heap hgQ4]; rfl
  have F5 := (Fr.refl [Q] w4).setCell ⟨Q, 1, none⟩ (by simp) (.int .i64 x)
  have hgQ5 : (w4.setCell ⟨Q, 1, none⟩ (.int .i64 x)).heap[Q]? = some (.cells #[.int .i64 2, .int .i64 x, .float .f64 0, .string ⟨#[]⟩, .slice none 0 0, .slice none 0 0] 57 (0, 0)) := heap_setN hgQ4 1 _
  have hgP5 := F5.at hgP4 (by simp; omega)
  have h5 := RdAt.kept h4 F5 (by simp; omega)
  have A5 := A4.trans (F5.mono (m := [b, P, Q]) (by simp))
  go_upto_region 32 with (fail)
  clear x1 q1 hgP4 hgQ4 A4 h4 F5
  generalize w4.setCell ⟨Q, 1, none⟩ (.int .i64 x) = w5 at *
  have q0 : w5.cell? ⟨Q, 0, none⟩ = some (.int .i64 2) := by rw [Lib.cell_of_heap hgQ5]; rfl
  have q1 : w5.cell? ⟨Q, 1, none⟩ = some (.int .i64 x) := by rw [Lib.cell_of_heap hgQ5]; rfl
  have q2 : w5.cell? ⟨Q, 2, none⟩ = some (.float .f64 0) := by rw [Lib.cell_of_heap hgQ5]; rfl
  have q3 : w5.cell? ⟨Q, 3, none⟩ = some (.string ⟨#[]⟩) := by rw [Lib.cell_of_heap hgQ5]; rfl
  have q4 : w5.cell? ⟨Q, 4, none⟩ = some (.slice none 0 0) := by rw [Lib.cell_of_heap hgQ5]; rfl
  have q5 : w5.cell? ⟨Q, 5, none⟩ = some (.slice none 0 0) := by rw [Lib.cell_of_heap hgQ5]; rfl
  have e0 : w5.cell? ⟨P, 0, none⟩ = some (.int .i64 0) := by rw [Lib.cell_of_heap hgP5]; rfl
  have z0 : w5.frozen? ⟨P, 0, none⟩ = false := Lib.frozen_of_heap hgP5 0
  have e1 : w5.cell? ⟨P, 1, none⟩ = some (.int .i64 0) := by rw [Lib.cell_of_heap hgP5]; rfl
  have z1 : w5.frozen? ⟨P, 1, none⟩ = false := Lib.frozen_of_heap hgP5 1
  have e2 : w5.cell? ⟨P, 2, none⟩ = some (.float .f64 0) := by rw [Lib.cell_of_heap hgP5]; rfl
  have z2 : w5.frozen? ⟨P, 2, none⟩ = false := Lib.frozen_of_heap hgP5 2
  have e3 : w5.cell? ⟨P, 3, none⟩ = some (.string ⟨#[]⟩) := by rw [Lib.cell_of_heap hgP5]; rfl
  have z3 : w5.frozen? ⟨P, 3, none⟩ = false := Lib.frozen_of_heap hgP5 3
  have e4 : w5.cell? ⟨P, 4, none⟩ = some (.slice none 0 0) := by rw [Lib.cell_of_heap hgP5]; rfl
  have z4 : w5.frozen? ⟨P, 4, none⟩ = false := Lib.frozen_of_heap hgP5 4
  have e5 : w5.cell? ⟨P, 5, none⟩ = some (.slice none 0 0) := by rw [Lib.cell_of_heap hgP5]; rfl
  have z5 : w5.frozen? ⟨P, 5, none⟩ = false := Lib.frozen_of_heap hgP5 5
  go_wp2_with fail
  have hgF : (((((((w5).setCell ⟨P, 0, none⟩ (.int .i64 2)).setCell ⟨P, 1, none⟩ (.int .i64 x)).setCell ⟨P, 2, none⟩ (.float .f64 0)).setCell ⟨P, 3, none⟩ (.string ⟨#[]⟩)).setCell ⟨P, 4, none⟩ (.slice none 0 0)).setCell ⟨P, 5, none⟩ (.slice none 0 0)).heap[P]? = some (.cells #[.int .i64 2, .int .i64 x, .float .f64 0, .string ⟨#[]⟩, .slice none 0 0, .slice none 0 0] 57 (0, 0)) := heap_setN (heap_setN (heap_setN (heap_setN (heap_setN (heap_setN hgP5 0 _) 1 _) 2 _) 3 _) 4 _) 5 _
  have FF := ((((((Fr.refl [P] w5).setCell ⟨P, 0, none⟩ (by simp) (.int .i64 2)).setCell ⟨P, 1, none⟩ (by simp) (.int .i64 x)).setCell ⟨P, 2, none⟩ (by simp) (.float .f64 0)).setCell ⟨P, 3, none⟩ (by simp) (.string ⟨#[]⟩)).setCell ⟨P, 4, none⟩ (by simp) (.slice none 0 0)).setCell ⟨P, 5, none⟩ (by simp) (.slice none 0 0)
  clear e0 z0 q0 e1 z1 q1 e2 z2 q2 e3 z3 q3 e4 z4 q4 e5 z5 q5
  generalize ((((((w5).setCell ⟨P, 0, none⟩ (.int .i64 2)).setCell ⟨P, 1, none⟩ (.int .i64 x)).setCell ⟨P, 2, none⟩ (.float .f64 0)).setCell ⟨P, 3, none⟩ (.string ⟨#[]⟩)).setCell ⟨P, 4, none⟩ (.slice none 0 0)).setCell ⟨P, 5, none⟩ (.slice none 0 0) = X at *
  have y0 : X.cell? ⟨P, 0, none⟩ = some (.int .i64 2) := by rw [Lib.cell_of_heap hgF]; rfl
  have y1 : X.cell? ⟨P, 1, none⟩ = some (.int .i64 x) := by rw [Lib.cell_of_heap hgF]; rfl
  have y2 : X.cell? ⟨P, 2, none⟩ = some (.float .f64 0) := by rw [Lib.cell_of_heap hgF]; rfl
  have y3 : X.cell? ⟨P, 3, none⟩ = some (.string ⟨#[]⟩) := by rw [Lib.cell_of_heap hgF]; rfl
  have y4 : X.cell? ⟨P, 4, none⟩ = some (.slice none 0 0) := by rw [Lib.cell_of_heap hgF]; rfl
  have y5 : X.cell? ⟨P, 5, none⟩ = some (.slice none 0 0) := by rw [Lib.cell_of_heap hgF]; rfl
  have hrX := RdAt.kept h5 FF (by simpa using hbP)
  have hff := (A5.trans (FF.mono (m := [b, P, Q]) (by simp))).fewer3 (by have := HP.out; omega) (by have := HP.out; omega)
  refine bodyPost_ret (v := .agg #[.int .i64 2, .int .i64 x, .float .f64 0, .string ⟨#[]⟩, .slice none 0 0, .slice none 0 0]) (by simp [results, Tryz.results86, go_sem, y0, y1, y2, y3, y4, y5]) rfl ?_
  exact ⟨.mk 2 x 0 [] [] [], _, p + 1, _, rfl, ValIn.leaf (t := []) (by omega) hbx (by unfold F64; omega) (by simp) f, hrX, hff, HN.out⟩
set_option maxRecDepth 100000 in
set_option maxHeartbeats 8000000 in
theorem rvalue_4 (s : ByteArray) (hs : s.size ≤ 1000000) (b : Nat) (st : Option (List UInt8)) (p f dn : Nat) (hp : p ≤ 200) (l2 : List UInt8) (hkc : outR 0 ((begR dn p st).bind byteR) = (4, some l2)) (w : World) (h : RdAt b s st p w) :
    Calls Tryz.prog 86 #[.pointer (some ⟨b, 0, none⟩), .int .i64 (dn : Int)] w (RVal b s f w ((rdStr 200 l2).map fun r => (.mk 4 0 0 r.1 [] [], p + 1, r.2))) := by
  have hC := fun w h => rstrR_any 200 (by omega) b (p + 1) s hs (some l2) w h
  have hC2 : ∀ w, RdAt b s (some l2) (p + 1) w → Calls Tryz.prog 122 #[.pointer (some ⟨b, 0, none⟩), .int .i64 ((200 : Nat) : Int)] w (RdCall b s (p + 1) w ((fun x => (.string ⟨x.1.toArray⟩, x.2)) (outR [] (rdStr 200 l2)))) := hC
  clear hC
  generalize hx : outR [] (rdStr 200 l2) = xx at *
  obtain ⟨x, st3⟩ := xx
  have hbx : x.length ≤ 200 := by
    cases hr : rdStr 200 l2 with
    | none => rw [hr] at hx; injection hx with h1 h2; subst h1; simp
    | some r => rw [hr] at hx; injection hx with h1 h2; subst h1; exact (rdStr_dec (s := r.1) (r := r.2) hr).2
  have hN : ∀ (q : Nat), (match (rdStr 200 l2).map fun r => ((.mk 4 0 0 r.1 [] [] : VT), p + 1, r.2) with | some y => (.mk 4 0 0 x [] [] : VT) = y.1 ∧ p + 1 = y.2.1 ∧ st3 = some y.2.2 | none => st3 = none) := fun _ => by
    cases hr : rdStr 200 l2 with
    | none => rw [hr] at hx; exact (congrArg Prod.snd hx).symm
    | some r => rw [hr] at hx; injection hx with hx1 hx2; subst hx1; exact ⟨rfl, rfl, hx2.symm⟩
  have HC := Lib.hid hC2; have HN := Lib.hid (hN 0)
  clear hC2 hN hx
  have hsf : ∀ (a : Addr) (x : Nat) (m : Mode) (w : World), (store a (.float .f64 x) m).run Tryz.prog w = stored Tryz.prog w a (.float .f64 x) m := fun a x m w => run_store _ w a _ m rfl
  have hbl := h.lt
  have h0 := h.below ((Below.refl _ _).alloc (Nat.le_refl _) (.cells #[.int .i64 0, .int .i64 0, .float .f64 0, .string ⟨#[]⟩, .slice none 0 0, .slice none 0 0] 57))
  have hg0 : (w.alloc (.cells #[.int .i64 0, .int .i64 0, .float .f64 0, .string ⟨#[]⟩, .slice none 0 0, .slice none 0 0] 57)).heap[w.heap.size]? = some (.cells #[.int .i64 0, .int .i64 0, .float .f64 0, .string ⟨#[]⟩, .slice none 0 0, .slice none 0 0] 57 (0, 0)) := heap_alloc_new w _
  have hf0 := (Fr.refl [b] w).alloc (.cells #[.int .i64 0, .int .i64 0, .float .f64 0, .string ⟨#[]⟩, .slice none 0 0, .slice none 0 0] 57)
  have HB := Lib.hid (fun w h => rbegin_any dn b p (by omega) s st w h)
  have HY := Lib.hid (fun w h => (show Calls Tryz.prog 56 #[.pointer (some ⟨b, 0, none⟩)] w (RdCall b s (p + 1) w (.int .i64 4, some l2)) from by
    have := rbyte_any b (p + 1) s hs (begR dn p st) w h
    rw [hkc] at this; exact this))
  clear h
  generalize hgh : w.heap.size = P at *
  have HP := Lib.hid hgh; clear hgh
  have hnP : P ∉ [b] := by simp; omega
  go_enter Tryz.func86, Tryz.ntmps86
  go_wp2_with fail
  rw [HP.out]
  generalize w.alloc (.cells #[.int .i64 0, .int .i64 0, .float .f64 0, .string ⟨#[]⟩, .slice none 0 0, .slice none 0 0] 57) = W0 at *
  refine (HB.out _ h0).mono ?_; rintro e w1 ⟨rfl, h1, hf1⟩
  have hg1 := hf1.at hg0 hnP
  have A1 := hf0.trans hf1
  clear h0 hg0 hf1 hf0
  go_wp2_with fail
  refine (HY.out _ h1).mono ?_; rintro e w2 ⟨rfl, h2, hf2⟩
  dsimp only at h2 ⊢
  have hg2 := hf2.at hg1 hnP
  have A2 := A1.trans hf2
  clear h1 hg1 hf2 A1
  go_upto_region 3 with (fail)
  have hgQ : (w2.alloc (.cells #[.int .i64 4, .int .i64 0, .float .f64 0, .string ⟨#[]⟩, .slice none 0 0, .slice none 0 0] 57)).heap[w2.heap.size]? = some (.cells #[.int .i64 4, .int .i64 0, .float .f64 0, .string ⟨#[]⟩, .slice none 0 0, .slice none 0 0] 57 (0, 0)) := heap_alloc_new w2 _
  have hPQ : P < w2.heap.size := lt_of_block hg2
  have hgP := (Lib.alloc_old w2 (.cells #[.int .i64 4, .int .i64 0, .float .f64 0, .string ⟨#[]⟩, .slice none 0 0, .slice none 0 0] 57) P hPQ).trans hg2
  have h3 := h2.below ((Below.refl _ _).alloc (Nat.le_refl _) (.cells #[.int .i64 4, .int .i64 0, .float .f64 0, .string ⟨#[]⟩, .slice none 0 0, .slice none 0 0] 57))
  have A3 := (A2.alloc (.cells #[.int .i64 4, .int .i64 0, .float .f64 0, .string ⟨#[]⟩, .slice none 0 0, .slice none 0 0] 57)).mono (m := [b, P, w2.heap.size]) (by simp)
  clear h2 hg2 A2
  generalize w2.alloc (.cells #[.int .i64 4, .int .i64 0, .float .f64 0, .string ⟨#[]⟩, .slice none 0 0, .slice none 0 0] 57) = w3 at *
  generalize w2.heap.size = Q at *
  have hbQ : b ≠ Q := by omega
  have hbP : b ≠ P := by omega
  have hPQ' : P ≠ Q := by omega
  obtain ⟨k3, e3, hgr, hkr, g1, g2⟩ := h3
  have r2 : w3.cell? ⟨b, 2, none⟩ = some (.int .i64 e3) := by rw [Lib.cell_of_heap hgr]; rfl
  obtain ⟨h1, hl1⟩ := g1 _ rfl
  subst h1
  have hr : RdAt b s (some l2) (p + 1) w3 := ⟨k3, 0, hgr, hkr, (fun l h => by cases h; exact ⟨rfl, hl1⟩), (fun h => nomatch h)⟩
  have HR := Lib.hid hr
  clear g1 g2 hgr hr hl1
  have q0 : w3.cell? ⟨Q, 0, none⟩ = some (.int .i64 4) := by rw [Lib.cell_of_heap hgQ]; rfl
  have q1 : w3.cell? ⟨Q, 1, none⟩ = some (.int .i64 0) := by rw [Lib.cell_of_heap hgQ]; rfl
  have q2 : w3.cell? ⟨Q, 2, none⟩ = some (.float .f64 0) := by rw [Lib.cell_of_heap hgQ]; rfl
  have q3 : w3.cell? ⟨Q, 3, none⟩ = some (.string ⟨#[]⟩) := by rw [Lib.cell_of_heap hgQ]; rfl
  have q4 : w3.cell? ⟨Q, 4, none⟩ = some (.slice none 0 0) := by rw [Lib.cell_of_heap hgQ]; rfl
  have q5 : w3.cell? ⟨Q, 5, none⟩ = some (.slice none 0 0) := by rw [Lib.cell_of_heap hgQ]; rfl
  go_wp2_with fail
  refine (HC.out _ HR.out).mono ?_; rintro e w4 ⟨rfl, h4, hf4⟩
  dsimp only at h4 ⊢
  have hgP4 := hf4.at hgP hnP
  have hgQ4 := hf4.at hgQ (by simp; omega)
  have A4 := A3.trans (hf4.mono (m := [b, P, Q]) (by simp))
  clear hgP hgQ A3 r2 q0 q1 q2 q3 q4 q5 hf4 HR hkr
  have x3 : w4.frozen? ⟨Q, 3, none⟩ = false := Lib.frozen_of_heap hgQ4 3
  have q3 : w4.cell? ⟨Q, 3, none⟩ = some (.string ⟨#[]⟩) := by rw [Lib.cell_of_heap hgQ4]; rfl
  have F5 := (Fr.refl [Q] w4).setCell ⟨Q, 3, none⟩ (by simp) (.string ⟨x.toArray⟩)
  have hgQ5 : (w4.setCell ⟨Q, 3, none⟩ (.string ⟨x.toArray⟩)).heap[Q]? = some (.cells #[.int .i64 4, .int .i64 0, .float .f64 0, .string ⟨x.toArray⟩, .slice none 0 0, .slice none 0 0] 57 (0, 0)) := heap_setN hgQ4 3 _
  have hgP5 := F5.at hgP4 (by simp; omega)
  have h5 := RdAt.kept h4 F5 (by simp; omega)
  have A5 := A4.trans (F5.mono (m := [b, P, Q]) (by simp))
  go_upto_region 32 with (fail)
  clear x3 q3 hgP4 hgQ4 A4 h4 F5
  generalize w4.setCell ⟨Q, 3, none⟩ (.string ⟨x.toArray⟩) = w5 at *
  have q0 : w5.cell? ⟨Q, 0, none⟩ = some (.int .i64 4) := by rw [Lib.cell_of_heap hgQ5]; rfl
  have q1 : w5.cell? ⟨Q, 1, none⟩ = some (.int .i64 0) := by rw [Lib.cell_of_heap hgQ5]; rfl
  have q2 : w5.cell? ⟨Q, 2, none⟩ = some (.float .f64 0) := by rw [Lib.cell_of_heap hgQ5]; rfl
  have q3 : w5.cell? ⟨Q, 3, none⟩ = some (.string ⟨x.toArray⟩) := by rw [Lib.cell_of_heap hgQ5]; rfl
  have q4 : w5.cell? ⟨Q, 4, none⟩ = some (.slice none 0 0) := by rw [Lib.cell_of_heap hgQ5]; rfl
  have q5 : w5.cell? ⟨Q, 5, none⟩ = some (.slice none 0 0) := by rw [Lib.cell_of_heap hgQ5]; rfl
  have e0 : w5.cell? ⟨P, 0, none⟩ = some (.int .i64 0) := by rw [Lib.cell_of_heap hgP5]; rfl
  have z0 : w5.frozen? ⟨P, 0, none⟩ = false := Lib.frozen_of_heap hgP5 0
  have e1 : w5.cell? ⟨P, 1, none⟩ = some (.int .i64 0) := by rw [Lib.cell_of_heap hgP5]; rfl
  have z1 : w5.frozen? ⟨P, 1, none⟩ = false := Lib.frozen_of_heap hgP5 1
  have e2 : w5.cell? ⟨P, 2, none⟩ = some (.float .f64 0) := by rw [Lib.cell_of_heap hgP5]; rfl
  have z2 : w5.frozen? ⟨P, 2, none⟩ = false := Lib.frozen_of_heap hgP5 2
  have e3 : w5.cell? ⟨P, 3, none⟩ = some (.string ⟨#[]⟩) := by rw [Lib.cell_of_heap hgP5]; rfl
  have z3 : w5.frozen? ⟨P, 3, none⟩ = false := Lib.frozen_of_heap hgP5 3
  have e4 : w5.cell? ⟨P, 4, none⟩ = some (.slice none 0 0) := by rw [Lib.cell_of_heap hgP5]; rfl
  have z4 : w5.frozen? ⟨P, 4, none⟩ = false := Lib.frozen_of_heap hgP5 4
  have e5 : w5.cell? ⟨P, 5, none⟩ = some (.slice none 0 0) := by rw [Lib.cell_of_heap hgP5]; rfl
  have z5 : w5.frozen? ⟨P, 5, none⟩ = false := Lib.frozen_of_heap hgP5 5
  go_wp2_with fail
  have hgF : (((((((w5).setCell ⟨P, 0, none⟩ (.int .i64 4)).setCell ⟨P, 1, none⟩ (.int .i64 0)).setCell ⟨P, 2, none⟩ (.float .f64 0)).setCell ⟨P, 3, none⟩ (.string ⟨x.toArray⟩)).setCell ⟨P, 4, none⟩ (.slice none 0 0)).setCell ⟨P, 5, none⟩ (.slice none 0 0)).heap[P]? = some (.cells #[.int .i64 4, .int .i64 0, .float .f64 0, .string ⟨x.toArray⟩, .slice none 0 0, .slice none 0 0] 57 (0, 0)) := heap_setN (heap_setN (heap_setN (heap_setN (heap_setN (heap_setN hgP5 0 _) 1 _) 2 _) 3 _) 4 _) 5 _
  have FF := ((((((Fr.refl [P] w5).setCell ⟨P, 0, none⟩ (by simp) (.int .i64 4)).setCell ⟨P, 1, none⟩ (by simp) (.int .i64 0)).setCell ⟨P, 2, none⟩ (by simp) (.float .f64 0)).setCell ⟨P, 3, none⟩ (by simp) (.string ⟨x.toArray⟩)).setCell ⟨P, 4, none⟩ (by simp) (.slice none 0 0)).setCell ⟨P, 5, none⟩ (by simp) (.slice none 0 0)
  clear e0 z0 q0 e1 z1 q1 e2 z2 q2 e3 z3 q3 e4 z4 q4 e5 z5 q5
  generalize ((((((w5).setCell ⟨P, 0, none⟩ (.int .i64 4)).setCell ⟨P, 1, none⟩ (.int .i64 0)).setCell ⟨P, 2, none⟩ (.float .f64 0)).setCell ⟨P, 3, none⟩ (.string ⟨x.toArray⟩)).setCell ⟨P, 4, none⟩ (.slice none 0 0)).setCell ⟨P, 5, none⟩ (.slice none 0 0) = X at *
  have y0 : X.cell? ⟨P, 0, none⟩ = some (.int .i64 4) := by rw [Lib.cell_of_heap hgF]; rfl
  have y1 : X.cell? ⟨P, 1, none⟩ = some (.int .i64 0) := by rw [Lib.cell_of_heap hgF]; rfl
  have y2 : X.cell? ⟨P, 2, none⟩ = some (.float .f64 0) := by rw [Lib.cell_of_heap hgF]; rfl
  have y3 : X.cell? ⟨P, 3, none⟩ = some (.string ⟨x.toArray⟩) := by rw [Lib.cell_of_heap hgF]; rfl
  have y4 : X.cell? ⟨P, 4, none⟩ = some (.slice none 0 0) := by rw [Lib.cell_of_heap hgF]; rfl
  have y5 : X.cell? ⟨P, 5, none⟩ = some (.slice none 0 0) := by rw [Lib.cell_of_heap hgF]; rfl
  have hrX := RdAt.kept h5 FF (by simpa using hbP)
  have hff := (A5.trans (FF.mono (m := [b, P, Q]) (by simp))).fewer3 (by have := HP.out; omega) (by have := HP.out; omega)
  refine bodyPost_ret (v := .agg #[.int .i64 4, .int .i64 0, .float .f64 0, .string ⟨x.toArray⟩, .slice none 0 0, .slice none 0 0]) (by simp [results, Tryz.results86, go_sem, y0, y1, y2, y3, y4, y5]) rfl ?_
  exact ⟨.mk 4 0 0 x [] [], _, p + 1, _, rfl, ValIn.leaf (t := x) (by omega) (by omega) (by unfold F64; omega) (by omega) f, hrX, hff, HN.out⟩
set_option maxRecDepth 100000 in
set_option maxHeartbeats 8000000 in
theorem rvalue_1 (s : ByteArray) (hs : s.size ≤ 1000000) (b : Nat) (st : Option (List UInt8)) (p f dn : Nat) (hp : p ≤ 200) (l2 : List UInt8) (hkc : outR 0 ((begR dn p st).bind byteR) = (1, some l2)) (w : World) (h : RdAt b s st p w) :
    Calls Tryz.prog 86 #[.pointer (some ⟨b, 0, none⟩), .int .i64 (dn : Int)] w (RVal b s f w ((rdBool l2).map fun r => (.mk 1 r.1 0 [] [] [], p + 1, r.2))) := by
  cases l2 with
  | nil =>
    have HC := Lib.hid (fun w h => (show Calls Tryz.prog 56 #[.pointer (some ⟨b, 0, none⟩)] w (RdCall b s (p + 1) w (.int .i64 0, none)) from rbyte_any b (p + 1) s hs (some []) w h))
    have hsf : ∀ (a : Addr) (x : Nat) (m : Mode) (w : World), (store a (.float .f64 x) m).run Tryz.prog w = stored Tryz.prog w a (.float .f64 x) m := fun a x m w => run_store _ w a _ m rfl
    have hbl := h.lt
    have h0 := h.below ((Below.refl _ _).alloc (Nat.le_refl _) (.cells #[.int .i64 0, .int .i64 0, .float .f64 0, .string ⟨#[]⟩, .slice none 0 0, .slice none 0 0] 57))
    have hg0 : (w.alloc (.cells #[.int .i64 0, .int .i64 0, .float .f64 0, .string ⟨#[]⟩, .slice none 0 0, .slice none 0 0] 57)).heap[w.heap.size]? = some (.cells #[.int .i64 0, .int .i64 0, .float .f64 0, .string ⟨#[]⟩, .slice none 0 0, .slice none 0 0] 57 (0, 0)) := heap_alloc_new w _
    have hf0 := (Fr.refl [b] w).alloc (.cells #[.int .i64 0, .int .i64 0, .float .f64 0, .string ⟨#[]⟩, .slice none 0 0, .slice none 0 0] 57)
    have HB := Lib.hid (fun w h => rbegin_any dn b p (by omega) s st w h)
    have HY := Lib.hid (fun w h => (show Calls Tryz.prog 56 #[.pointer (some ⟨b, 0, none⟩)] w (RdCall b s (p + 1) w (.int .i64 1, some [])) from by
      have := rbyte_any b (p + 1) s hs (begR dn p st) w h
      rw [hkc] at this; exact this))
    clear h
    generalize hgh : w.heap.size = P at *
    have HP := Lib.hid hgh; clear hgh
    have hnP : P ∉ [b] := by simp; omega
    go_enter Tryz.func86, Tryz.ntmps86
    go_wp2_with fail
    rw [HP.out]
    generalize w.alloc (.cells #[.int .i64 0, .int .i64 0, .float .f64 0, .string ⟨#[]⟩, .slice none 0 0, .slice none 0 0] 57) = W0 at *
    refine (HB.out _ h0).mono ?_; rintro e w1 ⟨rfl, h1, hf1⟩
    have hg1 := hf1.at hg0 hnP
    have A1 := hf0.trans hf1
    clear h0 hg0 hf1 hf0
    go_wp2_with fail
    refine (HY.out _ h1).mono ?_; rintro e w2 ⟨rfl, h2, hf2⟩
    dsimp only at h2 ⊢
    have hg2 := hf2.at hg1 hnP
    have A2 := A1.trans hf2
    clear h1 hg1 hf2 A1
    go_upto_region 3 with (fail)
    have hgQ : (w2.alloc (.cells #[.int .i64 1, .int .i64 0, .float .f64 0, .string ⟨#[]⟩, .slice none 0 0, .slice none 0 0] 57)).heap[w2.heap.size]? = some (.cells #[.int .i64 1, .int .i64 0, .float .f64 0, .string ⟨#[]⟩, .slice none 0 0, .slice none 0 0] 57 (0, 0)) := heap_alloc_new w2 _
    have hPQ : P < w2.heap.size := lt_of_block hg2
    have hgP := (Lib.alloc_old w2 (.cells #[.int .i64 1, .int .i64 0, .float .f64 0, .string ⟨#[]⟩, .slice none 0 0, .slice none 0 0] 57) P hPQ).trans hg2
    have h3 := h2.below ((Below.refl _ _).alloc (Nat.le_refl _) (.cells #[.int .i64 1, .int .i64 0, .float .f64 0, .string ⟨#[]⟩, .slice none 0 0, .slice none 0 0] 57))
    have A3 := (A2.alloc (.cells #[.int .i64 1, .int .i64 0, .float .f64 0, .string ⟨#[]⟩, .slice none 0 0, .slice none 0 0] 57)).mono (m := [b, P, w2.heap.size]) (by simp)
    clear h2 hg2 A2
    generalize w2.alloc (.cells #[.int .i64 1, .int .i64 0, .float .f64 0, .string ⟨#[]⟩, .slice none 0 0, .slice none 0 0] 57) = w3 at *
    generalize w2.heap.size = Q at *
    have hbQ : b ≠ Q := by omega
    have hbP : b ≠ P := by omega
    have hPQ' : P ≠ Q := by omega
    obtain ⟨k3, e3, hgr, hkr, g1, g2⟩ := h3
    have r2 : w3.cell? ⟨b, 2, none⟩ = some (.int .i64 e3) := by rw [Lib.cell_of_heap hgr]; rfl
    obtain ⟨h1, hl1⟩ := g1 _ rfl
    subst h1
    have hr : RdAt b s (some []) (p + 1) w3 := ⟨k3, 0, hgr, hkr, (fun l h => by cases h; exact ⟨rfl, hl1⟩), (fun h => nomatch h)⟩
    have HR := Lib.hid hr
    clear g1 g2 hgr hr hl1
    have q0 : w3.cell? ⟨Q, 0, none⟩ = some (.int .i64 1) := by rw [Lib.cell_of_heap hgQ]; rfl
    have q1 : w3.cell? ⟨Q, 1, none⟩ = some (.int .i64 0) := by rw [Lib.cell_of_heap hgQ]; rfl
    have q2 : w3.cell? ⟨Q, 2, none⟩ = some (.float .f64 0) := by rw [Lib.cell_of_heap hgQ]; rfl
    have q3 : w3.cell? ⟨Q, 3, none⟩ = some (.string ⟨#[]⟩) := by rw [Lib.cell_of_heap hgQ]; rfl
    have q4 : w3.cell? ⟨Q, 4, none⟩ = some (.slice none 0 0) := by rw [Lib.cell_of_heap hgQ]; rfl
    have q5 : w3.cell? ⟨Q, 5, none⟩ = some (.slice none 0 0) := by rw [Lib.cell_of_heap hgQ]; rfl
    go_wp2_with fail
    refine (HC.out _ HR.out).mono ?_; rintro e w4 ⟨rfl, h4, hf4⟩
    dsimp only at h4 ⊢
    have hgP4 := hf4.at hgP hnP
    have hgQ4 := hf4.at hgQ (by simp; omega)
    have A4 := A3.trans (hf4.mono (m := [b, P, Q]) (by simp))
    clear hgP hgQ A3 r2 q0 q1 q2 q3 q4 q5 hf4 HR hkr
    have x1 : w4.frozen? ⟨Q, 1, none⟩ = false := Lib.frozen_of_heap hgQ4 1
    have q1 : w4.cell? ⟨Q, 1, none⟩ = some (.int .i64 0) := by rw [Lib.cell_of_heap hgQ4]; rfl
    have F5 := (Fr.refl [Q] w4).setCell ⟨Q, 1, none⟩ (by simp) (.int .i64 0)
    have hgQ5 : (w4.setCell ⟨Q, 1, none⟩ (.int .i64 0)).heap[Q]? = some (.cells #[.int .i64 1, .int .i64 0, .float .f64 0, .string ⟨#[]⟩, .slice none 0 0, .slice none 0 0] 57 (0, 0)) := heap_setN hgQ4 1 _
    have hgP5 := F5.at hgP4 (by simp; omega)
    have h5 := RdAt.kept h4 F5 (by simp; omega)
    have A5 := A4.trans (F5.mono (m := [b, P, Q]) (by simp))
    go_upto_region 17 with (fail)
    clear x1 q1 hgP4 hgQ4 A4 h4 F5
    generalize w4.setCell ⟨Q, 1, none⟩ (.int .i64 0) = w5 at *
    have q0 : w5.cell? ⟨Q, 0, none⟩ = some (.int .i64 1) := by rw [Lib.cell_of_heap hgQ5]; rfl
    have q1 : w5.cell? ⟨Q, 1, none⟩ = some (.int .i64 0) := by rw [Lib.cell_of_heap hgQ5]; rfl
    have q2 : w5.cell? ⟨Q, 2, none⟩ = some (.float .f64 0) := by rw [Lib.cell_of_heap hgQ5]; rfl
    have q3 : w5.cell? ⟨Q, 3, none⟩ = some (.string ⟨#[]⟩) := by rw [Lib.cell_of_heap hgQ5]; rfl
    have q4 : w5.cell? ⟨Q, 4, none⟩ = some (.slice none 0 0) := by rw [Lib.cell_of_heap hgQ5]; rfl
    have q5 : w5.cell? ⟨Q, 5, none⟩ = some (.slice none 0 0) := by rw [Lib.cell_of_heap hgQ5]; rfl
    have e0 : w5.cell? ⟨P, 0, none⟩ = some (.int .i64 0) := by rw [Lib.cell_of_heap hgP5]; rfl
    have z0 : w5.frozen? ⟨P, 0, none⟩ = false := Lib.frozen_of_heap hgP5 0
    have e1 : w5.cell? ⟨P, 1, none⟩ = some (.int .i64 0) := by rw [Lib.cell_of_heap hgP5]; rfl
    have z1 : w5.frozen? ⟨P, 1, none⟩ = false := Lib.frozen_of_heap hgP5 1
    have e2 : w5.cell? ⟨P, 2, none⟩ = some (.float .f64 0) := by rw [Lib.cell_of_heap hgP5]; rfl
    have z2 : w5.frozen? ⟨P, 2, none⟩ = false := Lib.frozen_of_heap hgP5 2
    have e3 : w5.cell? ⟨P, 3, none⟩ = some (.string ⟨#[]⟩) := by rw [Lib.cell_of_heap hgP5]; rfl
    have z3 : w5.frozen? ⟨P, 3, none⟩ = false := Lib.frozen_of_heap hgP5 3
    have e4 : w5.cell? ⟨P, 4, none⟩ = some (.slice none 0 0) := by rw [Lib.cell_of_heap hgP5]; rfl
    have z4 : w5.frozen? ⟨P, 4, none⟩ = false := Lib.frozen_of_heap hgP5 4
    have e5 : w5.cell? ⟨P, 5, none⟩ = some (.slice none 0 0) := by rw [Lib.cell_of_heap hgP5]; rfl
    have z5 : w5.frozen? ⟨P, 5, none⟩ = false := Lib.frozen_of_heap hgP5 5
    go_wp2_with fail
    have hgF : (((((((w5).setCell ⟨P, 0, none⟩ (.int .i64 1)).setCell ⟨P, 1, none⟩ (.int .i64 0)).setCell ⟨P, 2, none⟩ (.float .f64 0)).setCell ⟨P, 3, none⟩ (.string ⟨#[]⟩)).setCell ⟨P, 4, none⟩ (.slice none 0 0)).setCell ⟨P, 5, none⟩ (.slice none 0 0)).heap[P]? = some (.cells #[.int .i64 1, .int .i64 0, .float .f64 0, .string ⟨#[]⟩, .slice none 0 0, .slice none 0 0] 57 (0, 0)) := heap_setN (heap_setN (heap_setN (heap_setN (heap_setN (heap_setN hgP5 0 _) 1 _) 2 _) 3 _) 4 _) 5 _
    have FF := ((((((Fr.refl [P] w5).setCell ⟨P, 0, none⟩ (by simp) (.int .i64 1)).setCell ⟨P, 1, none⟩ (by simp) (.int .i64 0)).setCell ⟨P, 2, none⟩ (by simp) (.float .f64 0)).setCell ⟨P, 3, none⟩ (by simp) (.string ⟨#[]⟩)).setCell ⟨P, 4, none⟩ (by simp) (.slice none 0 0)).setCell ⟨P, 5, none⟩ (by simp) (.slice none 0 0)
    clear e0 z0 q0 e1 z1 q1 e2 z2 q2 e3 z3 q3 e4 z4 q4 e5 z5 q5
    generalize ((((((w5).setCell ⟨P, 0, none⟩ (.int .i64 1)).setCell ⟨P, 1, none⟩ (.int .i64 0)).setCell ⟨P, 2, none⟩ (.float .f64 0)).setCell ⟨P, 3, none⟩ (.string ⟨#[]⟩)).setCell ⟨P, 4, none⟩ (.slice none 0 0)).setCell ⟨P, 5, none⟩ (.slice none 0 0) = X at *
    have y0 : X.cell? ⟨P, 0, none⟩ = some (.int .i64 1) := by rw [Lib.cell_of_heap hgF]; rfl
    have y1 : X.cell? ⟨P, 1, none⟩ = some (.int .i64 0) := by rw [Lib.cell_of_heap hgF]; rfl
    have y2 : X.cell? ⟨P, 2, none⟩ = some (.float .f64 0) := by rw [Lib.cell_of_heap hgF]; rfl
    have y3 : X.cell? ⟨P, 3, none⟩ = some (.string ⟨#[]⟩) := by rw [Lib.cell_of_heap hgF]; rfl
    have y4 : X.cell? ⟨P, 4, none⟩ = some (.slice none 0 0) := by rw [Lib.cell_of_heap hgF]; rfl
    have y5 : X.cell? ⟨P, 5, none⟩ = some (.slice none 0 0) := by rw [Lib.cell_of_heap hgF]; rfl
    have hrX := RdAt.kept h5 FF (by simpa using hbP)
    have hff := (A5.trans (FF.mono (m := [b, P, Q]) (by simp))).fewer3 (by have := HP.out; omega) (by have := HP.out; omega)
    refine bodyPost_ret (v := .agg #[.int .i64 1, .int .i64 0, .float .f64 0, .string ⟨#[]⟩, .slice none 0 0, .slice none 0 0]) (by simp [results, Tryz.results86, go_sem, y0, y1, y2, y3, y4, y5]) rfl ?_
    exact ⟨.mk 1 0 0 [] [] [], _, p + 1, _, rfl, ValIn.leaf (t := []) (by omega) (by omega) (by unfold F64; omega) (by simp) f, hrX, hff, rfl⟩
  | cons c l3 =>
    have hc := c.toNat_lt
    by_cases h1 : c.toNat ≤ 1
    · have t1 : decide ((1 : Int) < (c.toNat : Int)) = false := by simp; omega
      have t1' : ¬ 1 < c.toNat := by omega
      have HN := Lib.hid (show rdBool (c :: l3) = some ((c.toNat : Int), l3) from by rw [rdBool, if_pos h1])
      clear h1
      have HC := Lib.hid (fun w h => (show Calls Tryz.prog 56 #[.pointer (some ⟨b, 0, none⟩)] w (RdCall b s (p + 1) w (.int .i64 (c.toNat : Int), some l3)) from rbyte_any b (p + 1) s hs (some (c :: l3)) w h))
      have hsf : ∀ (a : Addr) (x : Nat) (m : Mode) (w : World), (store a (.float .f64 x) m).run Tryz.prog w = stored Tryz.prog w a (.float .f64 x) m := fun a x m w => run_store _ w a _ m rfl
      have hbl := h.lt
      have h0 := h.below ((Below.refl _ _).alloc (Nat.le_refl _) (.cells #[.int .i64 0, .int .i64 0, .float .f64 0, .string ⟨#[]⟩, .slice none 0 0, .slice none 0 0] 57))
      have hg0 : (w.alloc (.cells #[.int .i64 0, .int .i64 0, .float .f64 0, .string ⟨#[]⟩, .slice none 0 0, .slice none 0 0] 57)).heap[w.heap.size]? = some (.cells #[.int .i64 0, .int .i64 0, .float .f64 0, .string ⟨#[]⟩, .slice none 0 0, .slice none 0 0] 57 (0, 0)) := heap_alloc_new w _
      have hf0 := (Fr.refl [b] w).alloc (.cells #[.int .i64 0, .int .i64 0, .float .f64 0, .string ⟨#[]⟩, .slice none 0 0, .slice none 0 0] 57)
      have HB := Lib.hid (fun w h => rbegin_any dn b p (by omega) s st w h)
      have HY := Lib.hid (fun w h => (show Calls Tryz.prog 56 #[.pointer (some ⟨b, 0, none⟩)] w (RdCall b s (p + 1) w (.int .i64 1, some (c :: l3))) from by
        have := rbyte_any b (p + 1) s hs (begR dn p st) w h
        rw [hkc] at this; exact this))
      clear h
      generalize hgh : w.heap.size = P at *
      have HP := Lib.hid hgh; clear hgh
      have hnP : P ∉ [b] := by simp; omega
      go_enter Tryz.func86, Tryz.ntmps86
      go_wp2_with fail
      rw [HP.out]
      generalize w.alloc (.cells #[.int .i64 0, .int .i64 0, .float .f64 0, .string ⟨#[]⟩, .slice none 0 0, .slice none 0 0] 57) = W0 at *
      refine (HB.out _ h0).mono ?_; rintro e w1 ⟨rfl, h1, hf1⟩
      have hg1 := hf1.at hg0 hnP
      have A1 := hf0.trans hf1
      clear h0 hg0 hf1 hf0
      go_wp2_with fail
      refine (HY.out _ h1).mono ?_; rintro e w2 ⟨rfl, h2, hf2⟩
      dsimp only at h2 ⊢
      have hg2 := hf2.at hg1 hnP
      have A2 := A1.trans hf2
      clear h1 hg1 hf2 A1
      go_upto_region 3 with (fail)
      have hgQ : (w2.alloc (.cells #[.int .i64 1, .int .i64 0, .float .f64 0, .string ⟨#[]⟩, .slice none 0 0, .slice none 0 0] 57)).heap[w2.heap.size]? = some (.cells #[.int .i64 1, .int .i64 0, .float .f64 0, .string ⟨#[]⟩, .slice none 0 0, .slice none 0 0] 57 (0, 0)) := heap_alloc_new w2 _
      have hPQ : P < w2.heap.size := lt_of_block hg2
      have hgP := (Lib.alloc_old w2 (.cells #[.int .i64 1, .int .i64 0, .float .f64 0, .string ⟨#[]⟩, .slice none 0 0, .slice none 0 0] 57) P hPQ).trans hg2
      have h3 := h2.below ((Below.refl _ _).alloc (Nat.le_refl _) (.cells #[.int .i64 1, .int .i64 0, .float .f64 0, .string ⟨#[]⟩, .slice none 0 0, .slice none 0 0] 57))
      have A3 := (A2.alloc (.cells #[.int .i64 1, .int .i64 0, .float .f64 0, .string ⟨#[]⟩, .slice none 0 0, .slice none 0 0] 57)).mono (m := [b, P, w2.heap.size]) (by simp)
      clear h2 hg2 A2
      generalize w2.alloc (.cells #[.int .i64 1, .int .i64 0, .float .f64 0, .string ⟨#[]⟩, .slice none 0 0, .slice none 0 0] 57) = w3 at *
      generalize w2.heap.size = Q at *
      have hbQ : b ≠ Q := by omega
      have hbP : b ≠ P := by omega
      have hPQ' : P ≠ Q := by omega
      obtain ⟨k3, e3, hgr, hkr, g1, g2⟩ := h3
      have r2 : w3.cell? ⟨b, 2, none⟩ = some (.int .i64 e3) := by rw [Lib.cell_of_heap hgr]; rfl
      obtain ⟨h1, hl1⟩ := g1 _ rfl
      subst h1
      have hr : RdAt b s (some (c :: l3)) (p + 1) w3 := ⟨k3, 0, hgr, hkr, (fun l h => by cases h; exact ⟨rfl, hl1⟩), (fun h => nomatch h)⟩
      have HR := Lib.hid hr
      clear g1 g2 hgr hr hl1
      have q0 : w3.cell? ⟨Q, 0, none⟩ = some (.int .i64 1) := by rw [Lib.cell_of_heap hgQ]; rfl
      have q1 : w3.cell? ⟨Q, 1, none⟩ = some (.int .i64 0) := by rw [Lib.cell_of_heap hgQ]; rfl
      have q2 : w3.cell? ⟨Q, 2, none⟩ = some (.float .f64 0) := by rw [Lib.cell_of_heap hgQ]; rfl
      have q3 : w3.cell? ⟨Q, 3, none⟩ = some (.string ⟨#[]⟩) := by rw [Lib.cell_of_heap hgQ]; rfl
      have q4 : w3.cell? ⟨Q, 4, none⟩ = some (.slice none 0 0) := by rw [Lib.cell_of_heap hgQ]; rfl
      have q5 : w3.cell? ⟨Q, 5, none⟩ = some (.slice none 0 0) := by rw [Lib.cell_of_heap hgQ]; rfl
      go_wp2_with fail
      refine (HC.out _ HR.out).mono ?_; rintro e w4 ⟨rfl, h4, hf4⟩
      dsimp only at h4 ⊢
      have hgP4 := hf4.at hgP hnP
      have hgQ4 := hf4.at hgQ (by simp; omega)
      have A4 := A3.trans (hf4.mono (m := [b, P, Q]) (by simp))
      clear hgP hgQ A3 r2 q0 q1 q2 q3 q4 q5 hf4 HR hkr
      have x1 : w4.frozen? ⟨Q, 1, none⟩ = false := Lib.frozen_of_heap hgQ4 1
      have q1 : w4.cell? ⟨Q, 1, none⟩ = some (.int .i64 0) := by rw [Lib.cell_of_heap hgQ4]; rfl
      have F5 := (Fr.refl [Q] w4).setCell ⟨Q, 1, none⟩ (by simp) (.int .i64 (c.toNat : Int))
      have hgQ5 : (w4.setCell ⟨Q, 1, none⟩ (.int .i64 (c.toNat : Int))).heap[Q]? = some (.cells #[.int .i64 1, .int .i64 (c.toNat : Int), .float .f64 0, .string ⟨#[]⟩, .slice none 0 0, .slice none 0 0] 57 (0, 0)) := heap_setN hgQ4 1 _
      have hgP5 := F5.at hgP4 (by simp; omega)
      have h5 := RdAt.kept h4 F5 (by simp; omega)
      have A5 := A4.trans (F5.mono (m := [b, P, Q]) (by simp))
      go_upto_region 17 with (fail)
      clear x1 q1 hgP4 hgQ4 A4 h4 F5
      generalize w4.setCell ⟨Q, 1, none⟩ (.int .i64 (c.toNat : Int)) = w5 at *
      have q0 : w5.cell? ⟨Q, 0, none⟩ = some (.int .i64 1) := by rw [Lib.cell_of_heap hgQ5]; rfl
      have q1 : w5.cell? ⟨Q, 1, none⟩ = some (.int .i64 (c.toNat : Int)) := by rw [Lib.cell_of_heap hgQ5]; rfl
      have q2 : w5.cell? ⟨Q, 2, none⟩ = some (.float .f64 0) := by rw [Lib.cell_of_heap hgQ5]; rfl
      have q3 : w5.cell? ⟨Q, 3, none⟩ = some (.string ⟨#[]⟩) := by rw [Lib.cell_of_heap hgQ5]; rfl
      have q4 : w5.cell? ⟨Q, 4, none⟩ = some (.slice none 0 0) := by rw [Lib.cell_of_heap hgQ5]; rfl
      have q5 : w5.cell? ⟨Q, 5, none⟩ = some (.slice none 0 0) := by rw [Lib.cell_of_heap hgQ5]; rfl
      have e0 : w5.cell? ⟨P, 0, none⟩ = some (.int .i64 0) := by rw [Lib.cell_of_heap hgP5]; rfl
      have z0 : w5.frozen? ⟨P, 0, none⟩ = false := Lib.frozen_of_heap hgP5 0
      have e1 : w5.cell? ⟨P, 1, none⟩ = some (.int .i64 0) := by rw [Lib.cell_of_heap hgP5]; rfl
      have z1 : w5.frozen? ⟨P, 1, none⟩ = false := Lib.frozen_of_heap hgP5 1
      have e2 : w5.cell? ⟨P, 2, none⟩ = some (.float .f64 0) := by rw [Lib.cell_of_heap hgP5]; rfl
      have z2 : w5.frozen? ⟨P, 2, none⟩ = false := Lib.frozen_of_heap hgP5 2
      have e3 : w5.cell? ⟨P, 3, none⟩ = some (.string ⟨#[]⟩) := by rw [Lib.cell_of_heap hgP5]; rfl
      have z3 : w5.frozen? ⟨P, 3, none⟩ = false := Lib.frozen_of_heap hgP5 3
      have e4 : w5.cell? ⟨P, 4, none⟩ = some (.slice none 0 0) := by rw [Lib.cell_of_heap hgP5]; rfl
      have z4 : w5.frozen? ⟨P, 4, none⟩ = false := Lib.frozen_of_heap hgP5 4
      have e5 : w5.cell? ⟨P, 5, none⟩ = some (.slice none 0 0) := by rw [Lib.cell_of_heap hgP5]; rfl
      have z5 : w5.frozen? ⟨P, 5, none⟩ = false := Lib.frozen_of_heap hgP5 5
      go_wp2_with fail
      have hgF : (((((((w5).setCell ⟨P, 0, none⟩ (.int .i64 1)).setCell ⟨P, 1, none⟩ (.int .i64 (c.toNat : Int))).setCell ⟨P, 2, none⟩ (.float .f64 0)).setCell ⟨P, 3, none⟩ (.string ⟨#[]⟩)).setCell ⟨P, 4, none⟩ (.slice none 0 0)).setCell ⟨P, 5, none⟩ (.slice none 0 0)).heap[P]? = some (.cells #[.int .i64 1, .int .i64 (c.toNat : Int), .float .f64 0, .string ⟨#[]⟩, .slice none 0 0, .slice none 0 0] 57 (0, 0)) := heap_setN (heap_setN (heap_setN (heap_setN (heap_setN (heap_setN hgP5 0 _) 1 _) 2 _) 3 _) 4 _) 5 _
      have FF := ((((((Fr.refl [P] w5).setCell ⟨P, 0, none⟩ (by simp) (.int .i64 1)).setCell ⟨P, 1, none⟩ (by simp) (.int .i64 (c.toNat : Int))).setCell ⟨P, 2, none⟩ (by simp) (.float .f64 0)).setCell ⟨P, 3, none⟩ (by simp) (.string ⟨#[]⟩)).setCell ⟨P, 4, none⟩ (by simp) (.slice none 0 0)).setCell ⟨P, 5, none⟩ (by simp) (.slice none 0 0)
      clear e0 z0 q0 e1 z1 q1 e2 z2 q2 e3 z3 q3 e4 z4 q4 e5 z5 q5
      generalize ((((((w5).setCell ⟨P, 0, none⟩ (.int .i64 1)).setCell ⟨P, 1, none⟩ (.int .i64 (c.toNat : Int))).setCell ⟨P, 2, none⟩ (.float .f64 0)).setCell ⟨P, 3, none⟩ (.string ⟨#[]⟩)).setCell ⟨P, 4, none⟩ (.slice none 0 0)).setCell ⟨P, 5, none⟩ (.slice none 0 0) = X at *
      have y0 : X.cell? ⟨P, 0, none⟩ = some (.int .i64 1) := by rw [Lib.cell_of_heap hgF]; rfl
      have y1 : X.cell? ⟨P, 1, none⟩ = some (.int .i64 (c.toNat : Int)) := by rw [Lib.cell_of_heap hgF]; rfl
      have y2 : X.cell? ⟨P, 2, none⟩ = some (.float .f64 0) := by rw [Lib.cell_of_heap hgF]; rfl
      have y3 : X.cell? ⟨P, 3, none⟩ = some (.string ⟨#[]⟩) := by rw [Lib.cell_of_heap hgF]; rfl
      have y4 : X.cell? ⟨P, 4, none⟩ = some (.slice none 0 0) := by rw [Lib.cell_of_heap hgF]; rfl
      have y5 : X.cell? ⟨P, 5, none⟩ = some (.slice none 0 0) := by rw [Lib.cell_of_heap hgF]; rfl
      have hrX := RdAt.kept h5 FF (by simpa using hbP)
      have hff := (A5.trans (FF.mono (m := [b, P, Q]) (by simp))).fewer3 (by have := HP.out; omega) (by have := HP.out; omega)
      refine bodyPost_ret (v := .agg #[.int .i64 1, .int .i64 (c.toNat : Int), .float .f64 0, .string ⟨#[]⟩, .slice none 0 0, .slice none 0 0]) (by simp [results, Tryz.results86, go_sem, y0, y1, y2, y3, y4, y5]) rfl ?_
      exact ⟨.mk 1 (c.toNat : Int) 0 [] [] [], _, p + 1, _, rfl, ValIn.leaf (t := []) (by omega) (by omega) (by unfold F64; omega) (by simp) f, hrX, hff, by rw [HN.out]; exact ⟨rfl, rfl, rfl⟩⟩
    · have t1 : decide ((1 : Int) < (c.toNat : Int)) = true := by simp; omega
      have t1' : 1 < c.toNat := by omega
      have HN := Lib.hid (show rdBool (c :: l3) = none from by rw [rdBool, if_neg h1])
      have HF := Lib.hid (fun st (w : World) (h : RdAt b s st (p + 1) w) => rfail_any 5 (by decide) b (p + 1) s st w h)
      clear h1
      have HC := Lib.hid (fun w h => (show Calls Tryz.prog 56 #[.pointer (some ⟨b, 0, none⟩)] w (RdCall b s (p + 1) w (.int .i64 (c.toNat : Int), some l3)) from rbyte_any b (p + 1) s hs (some (c :: l3)) w h))
      have hsf : ∀ (a : Addr) (x : Nat) (m : Mode) (w : World), (store a (.float .f64 x) m).run Tryz.prog w = stored Tryz.prog w a (.float .f64 x) m := fun a x m w => run_store _ w a _ m rfl
      have hbl := h.lt
      have h0 := h.below ((Below.refl _ _).alloc (Nat.le_refl _) (.cells #[.int .i64 0, .int .i64 0, .float .f64 0, .string ⟨#[]⟩, .slice none 0 0, .slice none 0 0] 57))
      have hg0 : (w.alloc (.cells #[.int .i64 0, .int .i64 0, .float .f64 0, .string ⟨#[]⟩, .slice none 0 0, .slice none 0 0] 57)).heap[w.heap.size]? = some (.cells #[.int .i64 0, .int .i64 0, .float .f64 0, .string ⟨#[]⟩, .slice none 0 0, .slice none 0 0] 57 (0, 0)) := heap_alloc_new w _
      have hf0 := (Fr.refl [b] w).alloc (.cells #[.int .i64 0, .int .i64 0, .float .f64 0, .string ⟨#[]⟩, .slice none 0 0, .slice none 0 0] 57)
      have HB := Lib.hid (fun w h => rbegin_any dn b p (by omega) s st w h)
      have HY := Lib.hid (fun w h => (show Calls Tryz.prog 56 #[.pointer (some ⟨b, 0, none⟩)] w (RdCall b s (p + 1) w (.int .i64 1, some (c :: l3))) from by
        have := rbyte_any b (p + 1) s hs (begR dn p st) w h
        rw [hkc] at this; exact this))
      clear h
      generalize hgh : w.heap.size = P at *
      have HP := Lib.hid hgh; clear hgh
      have hnP : P ∉ [b] := by simp; omega
      go_enter Tryz.func86, Tryz.ntmps86
      go_wp2_with fail
      rw [HP.out]
      generalize w.alloc (.cells #[.int .i64 0, .int .i64 0, .float .f64 0, .string ⟨#[]⟩, .slice none 0 0, .slice none 0 0] 57) = W0 at *
      refine (HB.out _ h0).mono ?_; rintro e w1 ⟨rfl, h1, hf1⟩
      have hg1 := hf1.at hg0 hnP
      have A1 := hf0.trans hf1
      clear h0 hg0 hf1 hf0
      go_wp2_with fail
      refine (HY.out _ h1).mono ?_; rintro e w2 ⟨rfl, h2, hf2⟩
      dsimp only at h2 ⊢
      have hg2 := hf2.at hg1 hnP
      have A2 := A1.trans hf2
      clear h1 hg1 hf2 A1
      go_upto_region 3 with (fail)
      have hgQ : (w2.alloc (.cells #[.int .i64 1, .int .i64 0, .float .f64 0, .string ⟨#[]⟩, .slice none 0 0, .slice none 0 0] 57)).heap[w2.heap.size]? = some (.cells #[.int .i64 1, .int .i64 0, .float .f64 0, .string ⟨#[]⟩, .slice none 0 0, .slice none 0 0] 57 (0, 0)) := heap_alloc_new w2 _
      have hPQ : P < w2.heap.size := lt_of_block hg2
      have hgP := (Lib.alloc_old w2 (.cells #[.int .i64 1, .int .i64 0, .float .f64 0, .string ⟨#[]⟩, .slice none 0 0, .slice none 0 0] 57) P hPQ).trans hg2
      have h3 := h2.below ((Below.refl _ _).alloc (Nat.le_refl _) (.cells #[.int .i64 1, .int .i64 0, .float .f64 0, .string ⟨#[]⟩, .slice none 0 0, .slice none 0 0] 57))
      have A3 := (A2.alloc (.cells #[.int .i64 1, .int .i64 0, .float .f64 0, .string ⟨#[]⟩, .slice none 0 0, .slice none 0 0] 57)).mono (m := [b, P, w2.heap.size]) (by simp)
      clear h2 hg2 A2
      generalize w2.alloc (.cells #[.int .i64 1, .int .i64 0, .float .f64 0, .string ⟨#[]⟩, .slice none 0 0, .slice none 0 0] 57) = w3 at *
      generalize w2.heap.size = Q at *
      have hbQ : b ≠ Q := by omega
      have hbP : b ≠ P := by omega
      have hPQ' : P ≠ Q := by omega
      obtain ⟨k3, e3, hgr, hkr, g1, g2⟩ := h3
      have r2 : w3.cell? ⟨b, 2, none⟩ = some (.int .i64 e3) := by rw [Lib.cell_of_heap hgr]; rfl
      obtain ⟨h1, hl1⟩ := g1 _ rfl
      subst h1
      have hr : RdAt b s (some (c :: l3)) (p + 1) w3 := ⟨k3, 0, hgr, hkr, (fun l h => by cases h; exact ⟨rfl, hl1⟩), (fun h => nomatch h)⟩
      have HR := Lib.hid hr
      clear g1 g2 hgr hr hl1
      have q0 : w3.cell? ⟨Q, 0, none⟩ = some (.int .i64 1) := by rw [Lib.cell_of_heap hgQ]; rfl
      have q1 : w3.cell? ⟨Q, 1, none⟩ = some (.int .i64 0) := by rw [Lib.cell_of_heap hgQ]; rfl
      have q2 : w3.cell? ⟨Q, 2, none⟩ = some (.float .f64 0) := by rw [Lib.cell_of_heap hgQ]; rfl
      have q3 : w3.cell? ⟨Q, 3, none⟩ = some (.string ⟨#[]⟩) := by rw [Lib.cell_of_heap hgQ]; rfl
      have q4 : w3.cell? ⟨Q, 4, none⟩ = some (.slice none 0 0) := by rw [Lib.cell_of_heap hgQ]; rfl
      have q5 : w3.cell? ⟨Q, 5, none⟩ = some (.slice none 0 0) := by rw [Lib.cell_of_heap hgQ]; rfl
      go_wp2_with fail
      refine (HC.out _ HR.out).mono ?_; rintro e w4 ⟨rfl, h4, hf4⟩
      dsimp only at h4 ⊢
      have hgP4 := hf4.at hgP hnP
      have hgQ4 := hf4.at hgQ (by simp; omega)
      have A4 := A3.trans (hf4.mono (m := [b, P, Q]) (by simp))
      clear hgP hgQ A3 r2 q0 q1 q2 q3 q4 q5 hf4 HR hkr
      have x1 : w4.frozen? ⟨Q, 1, none⟩ = false := Lib.frozen_of_heap hgQ4 1
      have q1 : w4.cell? ⟨Q, 1, none⟩ = some (.int .i64 0) := by rw [Lib.cell_of_heap hgQ4]; rfl
      have F5 := (Fr.refl [Q] w4).setCell ⟨Q, 1, none⟩ (by simp) (.int .i64 (c.toNat : Int))
      have hgQ5 : (w4.setCell ⟨Q, 1, none⟩ (.int .i64 (c.toNat : Int))).heap[Q]? = some (.cells #[.int .i64 1, .int .i64 (c.toNat : Int), .float .f64 0, .string ⟨#[]⟩, .slice none 0 0, .slice none 0 0] 57 (0, 0)) := heap_setN hgQ4 1 _
      have hgP5 := F5.at hgP4 (by simp; omega)
      have h5 := RdAt.kept h4 F5 (by simp; omega)
      have A5 := A4.trans (F5.mono (m := [b, P, Q]) (by simp))
      go_upto_region 17 with (fail)
      clear x1 q1 hgP4 hgQ4 A4 h4 F5
      generalize w4.setCell ⟨Q, 1, none⟩ (.int .i64 (c.toNat : Int)) = w5 at *
      have q0 : w5.cell? ⟨Q, 0, none⟩ = some (.int .i64 1) := by rw [Lib.cell_of_heap hgQ5]; rfl
      have q1 : w5.cell? ⟨Q, 1, none⟩ = some (.int .i64 (c.toNat : Int)) := by rw [Lib.cell_of_heap hgQ5]; rfl
      have q2 : w5.cell? ⟨Q, 2, none⟩ = some (.float .f64 0) := by rw [Lib.cell_of_heap hgQ5]; rfl
      have q3 : w5.cell? ⟨Q, 3, none⟩ = some (.string ⟨#[]⟩) := by rw [Lib.cell_of_heap hgQ5]; rfl
      have q4 : w5.cell? ⟨Q, 4, none⟩ = some (.slice none 0 0) := by rw [Lib.cell_of_heap hgQ5]; rfl
      have q5 : w5.cell? ⟨Q, 5, none⟩ = some (.slice none 0 0) := by rw [Lib.cell_of_heap hgQ5]; rfl
      go_wp2_with fail
      refine (HF.out _ _ h5).mono ?_; rintro e w6 ⟨rfl, h6, hf6⟩
      have hgP6 := hf6.at hgP5 hnP
      have hgQ6 := hf6.at hgQ5 (by simp; omega)
      have A6 := A5.trans (hf6.mono (m := [b, P, Q]) (by simp))
      clear hgP5 hgQ5 A5 q0 q1 q2 q3 q4 q5 hf6 h5
      have q0 : w6.cell? ⟨Q, 0, none⟩ = some (.int .i64 1) := by rw [Lib.cell_of_heap hgQ6]; rfl
      have q1 : w6.cell? ⟨Q, 1, none⟩ = some (.int .i64 (c.toNat : Int)) := by rw [Lib.cell_of_heap hgQ6]; rfl
      have q2 : w6.cell? ⟨Q, 2, none⟩ = some (.float .f64 0) := by rw [Lib.cell_of_heap hgQ6]; rfl
      have q3 : w6.cell? ⟨Q, 3, none⟩ = some (.string ⟨#[]⟩) := by rw [Lib.cell_of_heap hgQ6]; rfl
      have q4 : w6.cell? ⟨Q, 4, none⟩ = some (.slice none 0 0) := by rw [Lib.cell_of_heap hgQ6]; rfl
      have q5 : w6.cell? ⟨Q, 5, none⟩ = some (.slice none 0 0) := by rw [Lib.cell_of_heap hgQ6]; rfl
      have e0 : w6.cell? ⟨P, 0, none⟩ = some (.int .i64 0) := by rw [Lib.cell_of_heap hgP6]; rfl
      have z0 : w6.frozen? ⟨P, 0, none⟩ = false := Lib.frozen_of_heap hgP6 0
      have e1 : w6.cell? ⟨P, 1, none⟩ = some (.int .i64 0) := by rw [Lib.cell_of_heap hgP6]; rfl
      have z1 : w6.frozen? ⟨P, 1, none⟩ = false := Lib.frozen_of_heap hgP6 1
      have e2 : w6.cell? ⟨P, 2, none⟩ = some (.float .f64 0) := by rw [Lib.cell_of_heap hgP6]; rfl
      have z2 : w6.frozen? ⟨P, 2, none⟩ = false := Lib.frozen_of_heap hgP6 2
      have e3 : w6.cell? ⟨P, 3, none⟩ = some (.string ⟨#[]⟩) := by rw [Lib.cell_of_heap hgP6]; rfl
      have z3 : w6.frozen? ⟨P, 3, none⟩ = false := Lib.frozen_of_heap hgP6 3
      have e4 : w6.cell? ⟨P, 4, none⟩ = some (.slice none 0 0) := by rw [Lib.cell_of_heap hgP6]; rfl
      have z4 : w6.frozen? ⟨P, 4, none⟩ = false := Lib.frozen_of_heap hgP6 4
      have e5 : w6.cell? ⟨P, 5, none⟩ = some (.slice none 0 0) := by rw [Lib.cell_of_heap hgP6]; rfl
      have z5 : w6.frozen? ⟨P, 5, none⟩ = false := Lib.frozen_of_heap hgP6 5
      go_wp2_with fail
      have hgF : (((((((w6).setCell ⟨P, 0, none⟩ (.int .i64 1)).setCell ⟨P, 1, none⟩ (.int .i64 (c.toNat : Int))).setCell ⟨P, 2, none⟩ (.float .f64 0)).setCell ⟨P, 3, none⟩ (.string ⟨#[]⟩)).setCell ⟨P, 4, none⟩ (.slice none 0 0)).setCell ⟨P, 5, none⟩ (.slice none 0 0)).heap[P]? = some (.cells #[.int .i64 1, .int .i64 (c.toNat : Int), .float .f64 0, .string ⟨#[]⟩, .slice none 0 0, .slice none 0 0] 57 (0, 0)) := heap_setN (heap_setN (heap_setN (heap_setN (heap_setN (heap_setN hgP6 0 _) 1 _) 2 _) 3 _) 4 _) 5 _
      have FF := ((((((Fr.refl [P] w6).setCell ⟨P, 0, none⟩ (by simp) (.int .i64 1)).setCell ⟨P, 1, none⟩ (by simp) (.int .i64 (c.toNat : Int))).setCell ⟨P, 2, none⟩ (by simp) (.float .f64 0)).setCell ⟨P, 3, none⟩ (by simp) (.string ⟨#[]⟩)).setCell ⟨P, 4, none⟩ (by simp) (.slice none 0 0)).setCell ⟨P, 5, none⟩ (by simp) (.slice none 0 0)
      clear e0 z0 q0 e1 z1 q1 e2 z2 q2 e3 z3 q3 e4 z4 q4 e5 z5 q5
      generalize ((((((w6).setCell ⟨P, 0, none⟩ (.int .i64 1)).setCell ⟨P, 1, none⟩ (.int .i64 (c.toNat : Int))).setCell ⟨P, 2, none⟩ (.float .f64 0)).setCell ⟨P, 3, none⟩ (.string ⟨#[]⟩)).setCell ⟨P, 4, none⟩ (.slice none 0 0)).setCell ⟨P, 5, none⟩ (.slice none 0 0) = X at *
      have y0 : X.cell? ⟨P, 0, none⟩ = some (.int .i64 1) := by rw [Lib.cell_of_heap hgF]; rfl
      have y1 : X.cell? ⟨P, 1, none⟩ = some (.int .i64 (c.toNat : Int)) := by rw [Lib.cell_of_heap hgF]; rfl
      have y2 : X.cell? ⟨P, 2, none⟩ = some (.float .f64 0) := by rw [Lib.cell_of_heap hgF]; rfl
      have y3 : X.cell? ⟨P, 3, none⟩ = some (.string ⟨#[]⟩) := by rw [Lib.cell_of_heap hgF]; rfl
      have y4 : X.cell? ⟨P, 4, none⟩ = some (.slice none 0 0) := by rw [Lib.cell_of_heap hgF]; rfl
      have y5 : X.cell? ⟨P, 5, none⟩ = some (.slice none 0 0) := by rw [Lib.cell_of_heap hgF]; rfl
      have hrX := RdAt.kept h6 FF (by simpa using hbP)
      have hff := (A6.trans (FF.mono (m := [b, P, Q]) (by simp))).fewer3 (by have := HP.out; omega) (by have := HP.out; omega)
      refine bodyPost_ret (v := .agg #[.int .i64 1, .int .i64 (c.toNat : Int), .float .f64 0, .string ⟨#[]⟩, .slice none 0 0, .slice none 0 0]) (by simp [results, Tryz.results86, go_sem, y0, y1, y2, y3, y4, y5]) rfl ?_
      exact ⟨.mk 1 (c.toNat : Int) 0 [] [] [], _, p + 1, _, rfl, ValIn.leaf (t := []) (by omega) (by omega) (by unfold F64; omega) (by simp) f, hrX, hff, by rw [HN.out]; rfl⟩
end Go.Proofs.YtnaamiecljinnaaGreat
