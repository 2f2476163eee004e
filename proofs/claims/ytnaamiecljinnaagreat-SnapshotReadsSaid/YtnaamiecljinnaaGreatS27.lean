/-
  Ge in one text.
-/
import Derived.Below
import Derived.BigQuiet
import Derived.BigRegion
import Derived.Deep.AppendLies
import Derived.Deep.Cut
import Derived.Deep.CutBlock
import Derived.Deep.DeepCutAuto
import Derived.Deep.QuietTactic
import Derived.Deep.RegionHeld3
import Derived.Deep.RegionLaw
import Derived.Deep.RegionWith
import Derived.Defers
import Derived.Handy
import Derived.IntWalk
import Derived.Laws.Bits64b
import Derived.Laws.FloatBits
import Derived.Lib.AtoiAll
import Derived.Lib.Builder
import Derived.Lib.Bytes
import Derived.Lib.ConvBytes
import Derived.Lib.FrozenHead2
import Derived.Lib.Hide
import Derived.Lib.IndexMore
import Derived.Lib.ItoaNum
import Derived.Lib.MinMax
import Derived.Lib.OthersKept
import Derived.Lib.ParseIntB
import Derived.Lib.UnsafeStr
import Derived.LoopTactic
import Derived.OneCell
import Derived.OwnWalk
import Derived.Recover
import Derived.RegionTactic
import Derived.Shelf.Abstract
import Derived.StillTailTactics
import Derived.Tactics
import Derived.Tactics2
import Derived.Test.YtnaamiecljinnaaGreatChecked
import Derived.WalkKit
import Derived.WalkLawsBesides
import Derived.WalkSpells
import Ieee.Arith
import Derived.Test.YtnaamiecljinnaaGreatS00
import Derived.Test.YtnaamiecljinnaaGreatS02
import Derived.Test.YtnaamiecljinnaaGreatS03
import Derived.Test.YtnaamiecljinnaaGreatS08
import Derived.Test.YtnaamiecljinnaaGreatS10
import Derived.Test.YtnaamiecljinnaaGreatS12
import Derived.Test.YtnaamiecljinnaaGreatS15
import Derived.Test.YtnaamiecljinnaaGreatS19
import Derived.Test.YtnaamiecljinnaaGreatS25
import Derived.Test.YtnaamiecljinnaaGreatS26
namespace Go.Proofs.YtnaamiecljinnaaGreat
open Go.RowKit
theorem isO_some0 {st st1 : Option (List UInt8)} (h : IsO (st.bind byteR) 0 st1) : IsO (st.bind someR) noVT st1 := by
  cases st with
  | none => exact h
  | some l =>
    cases l with
    | nil => exact h
    | cons c t =>
      obtain ⟨hc, rfl⟩ := h
      show IsO (if c.toNat = 0 then some (noVT, t) else if c.toNat = 1 then rdVal t else none) noVT (some t)
      have hc : c.toNat = 0 := hc.symm
      rw [if_pos hc]
      exact ⟨rfl, rfl⟩
theorem isO_some1 {st st1 st2 : Option (List UInt8)} {v : VT} (h : IsO (st.bind byteR) 1 st1) (h2 : IsO (st1.bind rdVal) v st2) : IsO (st.bind someR) v st2 := by
  cases st with
  | none =>
    have h : st1 = none := h
    subst h
    exact h2
  | some l =>
    cases l with
    | nil =>
      have h : st1 = none := h
      subst h
      exact h2
    | cons c t =>
      obtain ⟨hc, rfl⟩ := h
      show IsO (if c.toNat = 0 then some (noVT, t) else if c.toNat = 1 then rdVal t else none) v st2
      have hc : c.toNat = 1 := hc.symm
      rw [if_neg (by omega), if_pos hc]
      exact h2
theorem isO_some2 {st st1 : Option (List UInt8)} {n : Nat} {v : VT} (h : IsO (st.bind byteR) n st1) (hn : 1 < n) : IsO (st.bind someR) v none := by
  cases st with
  | none => rfl
  | some l =>
    cases l with
    | nil => rfl
    | cons c t =>
      obtain ⟨hc, rfl⟩ := h
      show IsO (if c.toNat = 0 then some (noVT, t) else if c.toNat = 1 then rdVal t else none) v none
      have hc : c.toNat = n := hc.symm
      rw [if_neg (by omega), if_neg (by omega)]
      rfl
set_option maxRecDepth 100000 in
set_option maxHeartbeats 4000000 in
theorem isome_any (b p : Nat) (s : ByteArray) (hs : s.size ≤ 1000000) (st : Option (List UInt8)) (w : World) (h : RdAt b s st p w) :
    Calls Tryz.prog 32 #[.agg #[.pointer (some ⟨b, 0, none⟩)]] w (InV b p s w (st.bind someR)) := by
  have hsf : ∀ (a : Addr) (x : Nat) (m : Mode) (w : World), (store a (.float .f64 x) m).run Tryz.prog w = stored Tryz.prog w a (.float .f64 x) m := fun a x m w => run_store _ w a _ m rfl
  have h0 := h.below ((Below.refl _ _).alloc (Nat.le_refl _) (.cells #[.pointer (some ⟨b, 0, none⟩)] 93))
  have hgB : (w.alloc (.cells #[.pointer (some ⟨b, 0, none⟩)] 93)).heap[w.heap.size]? = some (.cells #[.pointer (some ⟨b, 0, none⟩)] 93 (0, 0)) := heap_alloc_new w _
  have hF0 := (Fr.refl [b] w).alloc (.cells #[.pointer (some ⟨b, 0, none⟩)] 93)
  have hnB : w.heap.size ∉ [b] := by have := h.lt; simp; omega
  have hbl := h.lt
  have hI := isO_out 0 (st.bind byteR)
  have hY := fun w h => rbyte_any b p s hs st w h
  have HF := Lib.hid (fun st (w : World) (h : RdAt b s st p w) => ifail_any b p s st w h)
  have hgP : ((w.alloc (.cells #[.pointer (some ⟨b, 0, none⟩)] 93)).alloc (.cells #[.int .i64 0, .int .i64 0, .float .f64 0, .string ⟨#[]⟩, .slice none 0 0, .slice none 0 0] 57)).heap[w.heap.size + 1]? = some (.cells #[.int .i64 0, .int .i64 0, .float .f64 0, .string ⟨#[]⟩, .slice none 0 0, .slice none 0 0] 57 (0, 0)) := by
    have := heap_alloc_new (w.alloc (.cells #[.pointer (some ⟨b, 0, none⟩)] 93)) (.cells #[.int .i64 0, .int .i64 0, .float .f64 0, .string ⟨#[]⟩, .slice none 0 0, .slice none 0 0] 57)
    rwa [show (w.alloc (.cells #[.pointer (some ⟨b, 0, none⟩)] 93)).heap.size = w.heap.size + 1 by simp] at this
  have hgB' := (Lib.alloc_old (w.alloc (.cells #[.pointer (some ⟨b, 0, none⟩)] 93)) (.cells #[.int .i64 0, .int .i64 0, .float .f64 0, .string ⟨#[]⟩, .slice none 0 0, .slice none 0 0] 57) w.heap.size (by simp)).trans hgB
  have h0' := h0.below ((Below.refl _ _).alloc (Nat.le_refl _) (.cells #[.int .i64 0, .int .i64 0, .float .f64 0, .string ⟨#[]⟩, .slice none 0 0, .slice none 0 0] 57))
  have hF0' := hF0.alloc (.cells #[.int .i64 0, .int .i64 0, .float .f64 0, .string ⟨#[]⟩, .slice none 0 0, .slice none 0 0] 57)
  have hnP : w.heap.size + 1 ∉ [b] := by simp; omega
  clear h h0 hgB hF0
  have hPw : w.heap.size + 1 = w.heap.size + 1 := rfl
  generalize hPg : w.heap.size + 1 = P at hgP hnP hPw
  have HPg := Lib.hid hPg
  have hPw1 : w.heap.size < P := by omega
  clear hPw
  generalize outR 0 (st.bind byteR) = q at *
  obtain ⟨n, st1⟩ := q
  dsimp only at hI hY
  have HV := Lib.hid (fun (w : World) (h : RdAt b s st1 p w) => ival_any b p s hs st1 w h)
  have HY := Lib.hid hY
  clear hY
  by_cases h1 : 1 < n
  · have t1 : decide ((1 : Int) < (n : Int)) = true := by simp; omega
    have t1' : 1 < n := h1
    have t2 : ((n : Int) == 1) = false := beq_eq_false_iff_ne.2 (by omega)
    have HI := Lib.hid (isO_some2 (v := noVT) hI h1)
    clear hI h1
    go_enter Tryz.func32, Tryz.ntmps32
    go_upto_region 1 with (fail)
    clear hPg
    generalize (w.alloc (.cells #[.pointer (some ⟨b, 0, none⟩)] 93)).alloc (.cells #[.int .i64 0, .int .i64 0, .float .f64 0, .string ⟨#[]⟩, .slice none 0 0, .slice none 0 0] 57) = W1 at *
    have x0 : W1.cell? ⟨w.heap.size, 0, none⟩ = some (.pointer (some ⟨b, 0, none⟩)) := by rw [Lib.cell_of_heap hgB']; rfl
    go_wp2_with fail
    refine (HY.out _ h0').mono ?_; rintro e w2 ⟨rfl, h2, hf2⟩
    dsimp only at h2 ⊢
    have hgB2 := hf2.at hgB' hnB
    have hgP2 := hf2.at hgP hnP
    have A2 := hF0'.trans hf2
    clear x0 hgP h0' hf2 hgB' hF0'
    have x0 : w2.cell? ⟨w.heap.size, 0, none⟩ = some (.pointer (some ⟨b, 0, none⟩)) := by rw [Lib.cell_of_heap hgB2]; rfl
    go_wp2_with fail
    refine (HF.out _ _ h2).mono ?_; rintro e w3 ⟨rfl, h3, hf3⟩
    have hgP3 := hf3.at hgP2 hnP
    have A3 := A2.trans hf3
    clear x0 hgB2 hgP2 A2 h2 hf3
    have e0 : w3.cell? ⟨P, 0, none⟩ = some (.int .i64 0) := by rw [Lib.cell_of_heap hgP3]; rfl
    have z0 : w3.frozen? ⟨P, 0, none⟩ = false := Lib.frozen_of_heap hgP3 0
    have e1 : w3.cell? ⟨P, 1, none⟩ = some (.int .i64 0) := by rw [Lib.cell_of_heap hgP3]; rfl
    have z1 : w3.frozen? ⟨P, 1, none⟩ = false := Lib.frozen_of_heap hgP3 1
    have e2 : w3.cell? ⟨P, 2, none⟩ = some (.float .f64 0) := by rw [Lib.cell_of_heap hgP3]; rfl
    have z2 : w3.frozen? ⟨P, 2, none⟩ = false := Lib.frozen_of_heap hgP3 2
    have e3 : w3.cell? ⟨P, 3, none⟩ = some (.string ⟨#[]⟩) := by rw [Lib.cell_of_heap hgP3]; rfl
    have z3 : w3.frozen? ⟨P, 3, none⟩ = false := Lib.frozen_of_heap hgP3 3
    have e4 : w3.cell? ⟨P, 4, none⟩ = some (.slice none 0 0) := by rw [Lib.cell_of_heap hgP3]; rfl
    have z4 : w3.frozen? ⟨P, 4, none⟩ = false := Lib.frozen_of_heap hgP3 4
    have e5 : w3.cell? ⟨P, 5, none⟩ = some (.slice none 0 0) := by rw [Lib.cell_of_heap hgP3]; rfl
    have z5 : w3.frozen? ⟨P, 5, none⟩ = false := Lib.frozen_of_heap hgP3 5
    have hgF : (((((((w3).setCell ⟨P, 0, none⟩ (.int .i64 0)).setCell ⟨P, 1, none⟩ (.int .i64 0)).setCell ⟨P, 2, none⟩ (.float .f64 0)).setCell ⟨P, 3, none⟩ (.string ⟨#[]⟩)).setCell ⟨P, 4, none⟩ (.slice none 0 0)).setCell ⟨P, 5, none⟩ (.slice none 0 0)).heap[P]? = some (.cells #[.int .i64 0, .int .i64 0, .float .f64 0, .string ⟨#[]⟩, .slice none 0 0, .slice none 0 0] 57 (0, 0)) := heap_setN (heap_setN (heap_setN (heap_setN (heap_setN (heap_setN hgP3 0 _) 1 _) 2 _) 3 _) 4 _) 5 _
    have FF := ((((((Fr.refl [P] w3).setCell ⟨P, 0, none⟩ (by simp) (.int .i64 0)).setCell ⟨P, 1, none⟩ (by simp) (.int .i64 0)).setCell ⟨P, 2, none⟩ (by simp) (.float .f64 0)).setCell ⟨P, 3, none⟩ (by simp) (.string ⟨#[]⟩)).setCell ⟨P, 4, none⟩ (by simp) (.slice none 0 0)).setCell ⟨P, 5, none⟩ (by simp) (.slice none 0 0)
    go_wp2_with fail
    clear e0 z0 e1 z1 e2 z2 e3 z3 e4 z4 e5 z5
    generalize ((((((w3).setCell ⟨P, 0, none⟩ (.int .i64 0)).setCell ⟨P, 1, none⟩ (.int .i64 0)).setCell ⟨P, 2, none⟩ (.float .f64 0)).setCell ⟨P, 3, none⟩ (.string ⟨#[]⟩)).setCell ⟨P, 4, none⟩ (.slice none 0 0)).setCell ⟨P, 5, none⟩ (.slice none 0 0) = X at *
    have y0 : X.cell? ⟨P, 0, none⟩ = some (.int .i64 0) := by rw [Lib.cell_of_heap hgF]; rfl
    have y1 : X.cell? ⟨P, 1, none⟩ = some (.int .i64 0) := by rw [Lib.cell_of_heap hgF]; rfl
    have y2 : X.cell? ⟨P, 2, none⟩ = some (.float .f64 0) := by rw [Lib.cell_of_heap hgF]; rfl
    have y3 : X.cell? ⟨P, 3, none⟩ = some (.string ⟨#[]⟩) := by rw [Lib.cell_of_heap hgF]; rfl
    have y4 : X.cell? ⟨P, 4, none⟩ = some (.slice none 0 0) := by rw [Lib.cell_of_heap hgF]; rfl
    have y5 : X.cell? ⟨P, 5, none⟩ = some (.slice none 0 0) := by rw [Lib.cell_of_heap hgF]; rfl
    have hrX := RdAt.kept h3 FF (by simp; omega)
    have hff := ((A3.mono (m := [b, P]) (by simp)).trans (FF.mono (m := [b, P]) (by simp))).fewer (by omega)
    refine bodyPost_ret (v := .agg #[.int .i64 0, .int .i64 0, .float .f64 0, .string ⟨#[]⟩, .slice none 0 0, .slice none 0 0]) (by simp [results, Tryz.results32, go_sem, y0, y1, y2, y3, y4, y5]) rfl ?_
    exact ⟨noVT, _, none, rfl, ValIn.leaf (t := []) (by omega) (by omega) (by unfold F64; omega) (by simp) 12, hrX, hff, HI.out⟩
  · have t1 : decide ((1 : Int) < (n : Int)) = false := by simp; omega
    have t1' : ¬ 1 < n := h1
    by_cases h0 : n = 0
    · subst h0
      have HI := Lib.hid (isO_some0 hI)
      clear hI h1
      go_enter Tryz.func32, Tryz.ntmps32
      go_upto_region 1 with (fail)
      clear hPg
      generalize (w.alloc (.cells #[.pointer (some ⟨b, 0, none⟩)] 93)).alloc (.cells #[.int .i64 0, .int .i64 0, .float .f64 0, .string ⟨#[]⟩, .slice none 0 0, .slice none 0 0] 57) = W1 at *
      have x0 : W1.cell? ⟨w.heap.size, 0, none⟩ = some (.pointer (some ⟨b, 0, none⟩)) := by rw [Lib.cell_of_heap hgB']; rfl
      go_wp2_with fail
      refine (HY.out _ h0').mono ?_; rintro e w2 ⟨rfl, h2, hf2⟩
      dsimp only at h2 ⊢
      have hgB2 := hf2.at hgB' hnB
      have hgP2 := hf2.at hgP hnP
      have A2 := hF0'.trans hf2
      clear x0 hgP h0' hf2 hgB' hF0'
      clear hgB2
      have e0 : w2.cell? ⟨P, 0, none⟩ = some (.int .i64 0) := by rw [Lib.cell_of_heap hgP2]; rfl
      have z0 : w2.frozen? ⟨P, 0, none⟩ = false := Lib.frozen_of_heap hgP2 0
      have e1 : w2.cell? ⟨P, 1, none⟩ = some (.int .i64 0) := by rw [Lib.cell_of_heap hgP2]; rfl
      have z1 : w2.frozen? ⟨P, 1, none⟩ = false := Lib.frozen_of_heap hgP2 1
      have e2 : w2.cell? ⟨P, 2, none⟩ = some (.float .f64 0) := by rw [Lib.cell_of_heap hgP2]; rfl
      have z2 : w2.frozen? ⟨P, 2, none⟩ = false := Lib.frozen_of_heap hgP2 2
      have e3 : w2.cell? ⟨P, 3, none⟩ = some (.string ⟨#[]⟩) := by rw [Lib.cell_of_heap hgP2]; rfl
      have z3 : w2.frozen? ⟨P, 3, none⟩ = false := Lib.frozen_of_heap hgP2 3
      have e4 : w2.cell? ⟨P, 4, none⟩ = some (.slice none 0 0) := by rw [Lib.cell_of_heap hgP2]; rfl
      have z4 : w2.frozen? ⟨P, 4, none⟩ = false := Lib.frozen_of_heap hgP2 4
      have e5 : w2.cell? ⟨P, 5, none⟩ = some (.slice none 0 0) := by rw [Lib.cell_of_heap hgP2]; rfl
      have z5 : w2.frozen? ⟨P, 5, none⟩ = false := Lib.frozen_of_heap hgP2 5
      have hgF : (((((((w2).setCell ⟨P, 0, none⟩ (.int .i64 0)).setCell ⟨P, 1, none⟩ (.int .i64 0)).setCell ⟨P, 2, none⟩ (.float .f64 0)).setCell ⟨P, 3, none⟩ (.string ⟨#[]⟩)).setCell ⟨P, 4, none⟩ (.slice none 0 0)).setCell ⟨P, 5, none⟩ (.slice none 0 0)).heap[P]? = some (.cells #[.int .i64 0, .int .i64 0, .float .f64 0, .string ⟨#[]⟩, .slice none 0 0, .slice none 0 0] 57 (0, 0)) := heap_setN (heap_setN (heap_setN (heap_setN (heap_setN (heap_setN hgP2 0 _) 1 _) 2 _) 3 _) 4 _) 5 _
      have FF := ((((((Fr.refl [P] w2).setCell ⟨P, 0, none⟩ (by simp) (.int .i64 0)).setCell ⟨P, 1, none⟩ (by simp) (.int .i64 0)).setCell ⟨P, 2, none⟩ (by simp) (.float .f64 0)).setCell ⟨P, 3, none⟩ (by simp) (.string ⟨#[]⟩)).setCell ⟨P, 4, none⟩ (by simp) (.slice none 0 0)).setCell ⟨P, 5, none⟩ (by simp) (.slice none 0 0)
      go_wp2_with fail
      clear e0 z0 e1 z1 e2 z2 e3 z3 e4 z4 e5 z5
      generalize ((((((w2).setCell ⟨P, 0, none⟩ (.int .i64 0)).setCell ⟨P, 1, none⟩ (.int .i64 0)).setCell ⟨P, 2, none⟩ (.float .f64 0)).setCell ⟨P, 3, none⟩ (.string ⟨#[]⟩)).setCell ⟨P, 4, none⟩ (.slice none 0 0)).setCell ⟨P, 5, none⟩ (.slice none 0 0) = X at *
      have y0 : X.cell? ⟨P, 0, none⟩ = some (.int .i64 0) := by rw [Lib.cell_of_heap hgF]; rfl
      have y1 : X.cell? ⟨P, 1, none⟩ = some (.int .i64 0) := by rw [Lib.cell_of_heap hgF]; rfl
      have y2 : X.cell? ⟨P, 2, none⟩ = some (.float .f64 0) := by rw [Lib.cell_of_heap hgF]; rfl
      have y3 : X.cell? ⟨P, 3, none⟩ = some (.string ⟨#[]⟩) := by rw [Lib.cell_of_heap hgF]; rfl
      have y4 : X.cell? ⟨P, 4, none⟩ = some (.slice none 0 0) := by rw [Lib.cell_of_heap hgF]; rfl
      have y5 : X.cell? ⟨P, 5, none⟩ = some (.slice none 0 0) := by rw [Lib.cell_of_heap hgF]; rfl
      have hrX := RdAt.kept h2 FF (by simp; omega)
      have hff := ((A2.mono (m := [b, P]) (by simp)).trans (FF.mono (m := [b, P]) (by simp))).fewer (by omega)
      refine bodyPost_ret (v := .agg #[.int .i64 0, .int .i64 0, .float .f64 0, .string ⟨#[]⟩, .slice none 0 0, .slice none 0 0]) (by simp [results, Tryz.results32, go_sem, y0, y1, y2, y3, y4, y5]) rfl ?_
      exact ⟨noVT, _, _, rfl, ValIn.leaf (t := []) (by omega) (by omega) (by unfold F64; omega) (by simp) 12, hrX, hff, HI.out⟩
    · obtain rfl : n = 1 := by omega
      have HI := Lib.hid hI
      clear hI h1 h0
      go_enter Tryz.func32, Tryz.ntmps32
      go_upto_region 1 with (fail)
      clear hPg
      generalize (w.alloc (.cells #[.pointer (some ⟨b, 0, none⟩)] 93)).alloc (.cells #[.int .i64 0, .int .i64 0, .float .f64 0, .string ⟨#[]⟩, .slice none 0 0, .slice none 0 0] 57) = W1 at *
      have x0 : W1.cell? ⟨w.heap.size, 0, none⟩ = some (.pointer (some ⟨b, 0, none⟩)) := by rw [Lib.cell_of_heap hgB']; rfl
      go_wp2_with fail
      refine (HY.out _ h0').mono ?_; rintro e w2 ⟨rfl, h2, hf2⟩
      dsimp only at h2 ⊢
      have hgB2 := hf2.at hgB' hnB
      have hgP2 := hf2.at hgP hnP
      have A2 := hF0'.trans hf2
      clear x0 hgP h0' hf2 hgB' hF0'
      have x0 : w2.cell? ⟨w.heap.size, 0, none⟩ = some (.pointer (some ⟨b, 0, none⟩)) := by rw [Lib.cell_of_heap hgB2]; rfl
      go_wp2_with fail
      refine (HV.out _ h2).mono ?_; rintro e w3 ⟨v, cs, st2, rfl, V3, h3, hf3, hiso⟩
      obtain ⟨na, nl, nc, ia, il, ic, rfl⟩ := V3.six
      have hgP3 := hf3.at hgP2 hnP
      have A3 := A2.trans hf3
      have HI2 := Lib.hid (isO_some1 HI.out hiso)
      have hP2 := lt_of_block hgP2
      have V4 := V3.kept (T := fun g => P < g) (Nat.le_refl _) (fun g hg _ => ⟨Nat.lt_of_lt_of_le hP2 hg, rfl⟩)
      clear x0 hgB2 hgP2 A2 h2 hf3 hiso V3
      have e0 : w3.cell? ⟨P, 0, none⟩ = some (.int .i64 0) := by rw [Lib.cell_of_heap hgP3]; rfl
      have z0 : w3.frozen? ⟨P, 0, none⟩ = false := Lib.frozen_of_heap hgP3 0
      have e1 : w3.cell? ⟨P, 1, none⟩ = some (.int .i64 0) := by rw [Lib.cell_of_heap hgP3]; rfl
      have z1 : w3.frozen? ⟨P, 1, none⟩ = false := Lib.frozen_of_heap hgP3 1
      have e2 : w3.cell? ⟨P, 2, none⟩ = some (.float .f64 0) := by rw [Lib.cell_of_heap hgP3]; rfl
      have z2 : w3.frozen? ⟨P, 2, none⟩ = false := Lib.frozen_of_heap hgP3 2
      have e3 : w3.cell? ⟨P, 3, none⟩ = some (.string ⟨#[]⟩) := by rw [Lib.cell_of_heap hgP3]; rfl
      have z3 : w3.frozen? ⟨P, 3, none⟩ = false := Lib.frozen_of_heap hgP3 3
      have e4 : w3.cell? ⟨P, 4, none⟩ = some (.slice none 0 0) := by rw [Lib.cell_of_heap hgP3]; rfl
      have z4 : w3.frozen? ⟨P, 4, none⟩ = false := Lib.frozen_of_heap hgP3 4
      have e5 : w3.cell? ⟨P, 5, none⟩ = some (.slice none 0 0) := by rw [Lib.cell_of_heap hgP3]; rfl
      have z5 : w3.frozen? ⟨P, 5, none⟩ = false := Lib.frozen_of_heap hgP3 5
      have hgF : (((((((w3).setCell ⟨P, 0, none⟩ (.int .i64 v.kind)).setCell ⟨P, 1, none⟩ (.int .i64 v.num)).setCell ⟨P, 2, none⟩ (.float .f64 v.flt)).setCell ⟨P, 3, none⟩ (.string ⟨v.str.toArray⟩)).setCell ⟨P, 4, none⟩ (.slice na nl nc)).setCell ⟨P, 5, none⟩ (.slice ia il ic)).heap[P]? = some (.cells #[.int .i64 v.kind, .int .i64 v.num, .float .f64 v.flt, .string ⟨v.str.toArray⟩, .slice na nl nc, .slice ia il ic] 57 (0, 0)) := heap_setN (heap_setN (heap_setN (heap_setN (heap_setN (heap_setN hgP3 0 _) 1 _) 2 _) 3 _) 4 _) 5 _
      have FF := ((((((Fr.refl [P] w3).setCell ⟨P, 0, none⟩ (by simp) (.int .i64 v.kind)).setCell ⟨P, 1, none⟩ (by simp) (.int .i64 v.num)).setCell ⟨P, 2, none⟩ (by simp) (.float .f64 v.flt)).setCell ⟨P, 3, none⟩ (by simp) (.string ⟨v.str.toArray⟩)).setCell ⟨P, 4, none⟩ (by simp) (.slice na nl nc)).setCell ⟨P, 5, none⟩ (by simp) (.slice ia il ic)
      go_wp2_with fail
      clear e0 z0 e1 z1 e2 z2 e3 z3 e4 z4 e5 z5
      generalize ((((((w3).setCell ⟨P, 0, none⟩ (.int .i64 v.kind)).setCell ⟨P, 1, none⟩ (.int .i64 v.num)).setCell ⟨P, 2, none⟩ (.float .f64 v.flt)).setCell ⟨P, 3, none⟩ (.string ⟨v.str.toArray⟩)).setCell ⟨P, 4, none⟩ (.slice na nl nc)).setCell ⟨P, 5, none⟩ (.slice ia il ic) = X at *
      have y0 : X.cell? ⟨P, 0, none⟩ = some (.int .i64 v.kind) := by rw [Lib.cell_of_heap hgF]; rfl
      have y1 : X.cell? ⟨P, 1, none⟩ = some (.int .i64 v.num) := by rw [Lib.cell_of_heap hgF]; rfl
      have y2 : X.cell? ⟨P, 2, none⟩ = some (.float .f64 v.flt) := by rw [Lib.cell_of_heap hgF]; rfl
      have y3 : X.cell? ⟨P, 3, none⟩ = some (.string ⟨v.str.toArray⟩) := by rw [Lib.cell_of_heap hgF]; rfl
      have y4 : X.cell? ⟨P, 4, none⟩ = some (.slice na nl nc) := by rw [Lib.cell_of_heap hgF]; rfl
      have y5 : X.cell? ⟨P, 5, none⟩ = some (.slice ia il ic) := by rw [Lib.cell_of_heap hgF]; rfl
      have hrX := RdAt.kept h3 FF (by simp; omega)
      have hff := ((A3.mono (m := [b, P]) (by simp)).trans (FF.mono (m := [b, P]) (by simp))).fewer (by omega)
      refine bodyPost_ret (v := .agg #[.int .i64 v.kind, .int .i64 v.num, .float .f64 v.flt, .string ⟨v.str.toArray⟩, .slice na nl nc, .slice ia il ic]) (by simp [results, Tryz.results32, go_sem, y0, y1, y2, y3, y4, y5]) rfl ?_
      exact ⟨v, _, _, rfl, V4.kept FF.size (fun g hg hl => ⟨by have h9 : P < g := hg; omega, FF.block g hl (by have h9 : P < g := hg; simp; omega)⟩), hrX, hff, HI2.out⟩
end Go.Proofs.YtnaamiecljinnaaGreat
