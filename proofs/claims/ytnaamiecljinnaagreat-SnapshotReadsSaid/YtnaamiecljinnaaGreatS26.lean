/-
  Gd in one text.
-/
import Derived.Below
import Derived.BigQuiet
import Derived.BigRegion
import Derived.Deep.AppendLies
import Derived.Deep.Cut
import Derived.Deep.CutBlock
import Derived.Deep.DeepCutAuto
import Derived.Deep.QuietTactic
import Derived.Deep.RegionHeld3
import Derived.Deep.RegionLaw
import Derived.Deep.RegionWith
import Derived.Defers
import Derived.Handy
import Derived.IntWalk
import Derived.Laws.Bits64b
import Derived.Laws.FloatBits
import Derived.Lib.AtoiAll
import Derived.Lib.Builder
import Derived.Lib.Bytes
import Derived.Lib.ConvBytes
import Derived.Lib.FrozenHead2
import Derived.Lib.Hide
import Derived.Lib.IndexMore
import Derived.Lib.ItoaNum
import Derived.Lib.MinMax
import Derived.Lib.OthersKept
import Derived.Lib.ParseIntB
import Derived.Lib.UnsafeStr
import Derived.LoopTactic
import Derived.OneCell
import Derived.OwnWalk
import Derived.Recover
import Derived.RegionTactic
import Derived.Shelf.Abstract
import Derived.StillTailTactics
import Derived.Tactics
import Derived.Tactics2
import Derived.Test.YtnaamiecljinnaaGreatChecked
import Derived.WalkKit
import Derived.WalkLawsBesides
import Derived.WalkSpells
import Ieee.Arith
import Derived.Test.YtnaamiecljinnaaGreatS00
import Derived.Test.YtnaamiecljinnaaGreatS02
import Derived.Test.YtnaamiecljinnaaGreatS03
import Derived.Test.YtnaamiecljinnaaGreatS08
import Derived.Test.YtnaamiecljinnaaGreatS09
import Derived.Test.YtnaamiecljinnaaGreatS10
import Derived.Test.YtnaamiecljinnaaGreatS11
import Derived.Test.YtnaamiecljinnaaGreatS12
import Derived.Test.YtnaamiecljinnaaGreatS19
import Derived.Test.YtnaamiecljinnaaGreatS25
namespace Go.Proofs.YtnaamiecljinnaaGreat
open Go.RowKit
/-- what In.val leaves -/
def InV (b p : Nat) (s : ByteArray) (w : World) (r : Option (VT × List UInt8)) (e : Ending) (w' : World) : Prop :=
  ∃ v cs st, e = .returned (.agg cs) ∧ ValIn (fun g => w.heap.size ≤ g) w' 13 v cs ∧ RdAt b s st p w' ∧ Fr [b] w w' ∧ IsO r v st
theorem not_one {a g : Nat} (h : a + 1 ≤ g) : g ∉ [a] := by simp; omega
/-- behind ReadValue: its answer lies in block Q -/
structure InMid (b p k : Nat) (e : Int) (s : ByteArray) (P Q : Nat) (w wx : World) (vs : Array Value) : Prop where
  hQ : wx.heap[Q]? = some (.cells vs 57 (0, 0))
  hr : wx.heap[b]? = some (.cells #[.string s, .int .i64 (k : Int), .int .i64 e, .int .i64 (p : Int)] 98 (0, 0))
  hB : wx.heap[w.heap.size]? = some (.cells #[.pointer (some ⟨b, 0, none⟩)] 93 (0, 0))
  hP : wx.heap[P]? = some (.cells #[.int .i64 0, .int .i64 0, .float .f64 0, .string ⟨#[]⟩, .slice none 0 0, .slice none 0 0] 57 (0, 0))
  A : Fr [b] w wx
  q1 : P < Q
  q2 : b < Q
  q3 : w.heap.size < Q
/-- the same world, drawn once or not -/
def Alike2 (w wx : World) : Prop := wx = w ∨ wx = w.drew
theorem Alike2.at {w wx : World} (h : Alike2 w wx) {k : Nat} {x : Obj} (hk : w.heap[k]? = some x) : wx.heap[k]? = some x := by
  rcases h with rfl | rfl <;> exact hk
theorem Alike2.fr {w wx a : World} (h : Alike2 w wx) {l : List Nat} (hk : Fr l a w) : Fr l a wx := by
  rcases h with rfl | rfl
  · exact hk
  · exact hk.drew
theorem Alike2.rd {w wx : World} (h : Alike2 w wx) {b p : Nat} {s : ByteArray} {st : Option (List UInt8)} (hk : RdAt b s st p w) : RdAt b s st p wx := by
  rcases h with rfl | rfl <;> exact hk
theorem Alike2.val {w wx : World} (h : Alike2 w wx) {S : Nat → Prop} {d : Nat} {v : VT} {cs : Array Value} (hk : ValIn S w d v cs) : ValIn S wx d v cs := by
  rcases h with rfl | rfl
  · exact hk
  · exact ValIn.kept (w := w) (w' := w.drew) (Nat.le_refl _) (fun g hg _ => ⟨hg, rfl⟩) hk
set_option maxRecDepth 100000 in
set_option maxHeartbeats 3000000 in
theorem ival_any (b p : Nat) (s : ByteArray) (hs : s.size ≤ 1000000) (st : Option (List UInt8)) (w : World) (h : RdAt b s st p w) :
    Calls Tryz.prog 33 #[.agg #[.pointer (some ⟨b, 0, none⟩)]] w (InV b p s w (st.bind rdVal)) := by
  have hsf : ∀ (a : Addr) (x : Nat) (m : Mode) (w : World), (store a (.float .f64 x) m).run Tryz.prog w = stored Tryz.prog w a (.float .f64 x) m := fun a x m w => run_store _ w a _ m rfl
  have h0 := h.below ((Below.refl _ _).alloc (Nat.le_refl _) (.cells #[.pointer (some ⟨b, 0, none⟩)] 93))
  have hgB : (w.alloc (.cells #[.pointer (some ⟨b, 0, none⟩)] 93)).heap[w.heap.size]? = some (.cells #[.pointer (some ⟨b, 0, none⟩)] 93 (0, 0)) := heap_alloc_new w _
  have hF0 := (Fr.refl [b] w).alloc (.cells #[.pointer (some ⟨b, 0, none⟩)] 93)
  have hnB : w.heap.size ∉ [b] := by have := h.lt; simp; omega
  have hbl := h.lt
  have HO := Lib.hid (fun w h => iok_any b p s st w h)
  have hgP : ((w.alloc (.cells #[.pointer (some ⟨b, 0, none⟩)] 93)).alloc (.cells #[.int .i64 0, .int .i64 0, .float .f64 0, .string ⟨#[]⟩, .slice none 0 0, .slice none 0 0] 57)).heap[w.heap.size + 1]? = some (.cells #[.int .i64 0, .int .i64 0, .float .f64 0, .string ⟨#[]⟩, .slice none 0 0, .slice none 0 0] 57 (0, 0)) := by
    have := heap_alloc_new (w.alloc (.cells #[.pointer (some ⟨b, 0, none⟩)] 93)) (.cells #[.int .i64 0, .int .i64 0, .float .f64 0, .string ⟨#[]⟩, .slice none 0 0, .slice none 0 0] 57)
    rwa [show (w.alloc (.cells #[.pointer (some ⟨b, 0, none⟩)] 93)).heap.size = w.heap.size + 1 by simp] at this
  have hgB' := (Lib.alloc_old (w.alloc (.cells #[.pointer (some ⟨b, 0, none⟩)] 93)) (.cells #[.int .i64 0, .int .i64 0, .float .f64 0, .string ⟨#[]⟩, .slice none 0 0, .slice none 0 0] 57) w.heap.size (by simp)).trans hgB
  have h0' := h0.below ((Below.refl _ _).alloc (Nat.le_refl _) (.cells #[.int .i64 0, .int .i64 0, .float .f64 0, .string ⟨#[]⟩, .slice none 0 0, .slice none 0 0] 57))
  have hF0' := hF0.alloc (.cells #[.int .i64 0, .int .i64 0, .float .f64 0, .string ⟨#[]⟩, .slice none 0 0, .slice none 0 0] 57)
  have hnP : w.heap.size + 1 ∉ [b] := by simp; omega
  clear h h0 hgB hF0
  have hPw : w.heap.size + 1 = w.heap.size + 1 := rfl
  generalize hPg : w.heap.size + 1 = P at hgP hnP hPw
  have HPg := Lib.hid hPg
  have hPw1 : w.heap.size < P := by omega
  clear hPw
  cases st with
  | none =>
    go_enter Tryz.func33, Tryz.ntmps33
    go_upto_region 1 with (fail)
    clear hPg
    generalize (w.alloc (.cells #[.pointer (some ⟨b, 0, none⟩)] 93)).alloc (.cells #[.int .i64 0, .int .i64 0, .float .f64 0, .string ⟨#[]⟩, .slice none 0 0, .slice none 0 0] 57) = W1 at *
    have x0 : W1.cell? ⟨w.heap.size, 0, none⟩ = some (.pointer (some ⟨b, 0, none⟩)) := by rw [Lib.cell_of_heap hgB']; rfl
    go_wp2_with fail
    refine (HO.out _ h0').mono ?_; rintro e w2 ⟨rfl, h2, hf2⟩
    have hgP2 := hf2.at hgP hnP
    have A2 := hF0'.trans hf2
    clear x0 hgP h0' hf2 hgB' hF0'
    have e0 : w2.cell? ⟨P, 0, none⟩ = some (.int .i64 0) := by rw [Lib.cell_of_heap hgP2]; rfl
    have z0 : w2.frozen? ⟨P, 0, none⟩ = false := Lib.frozen_of_heap hgP2 0
    have e1 : w2.cell? ⟨P, 1, none⟩ = some (.int .i64 0) := by rw [Lib.cell_of_heap hgP2]; rfl
    have z1 : w2.frozen? ⟨P, 1, none⟩ = false := Lib.frozen_of_heap hgP2 1
    have e2 : w2.cell? ⟨P, 2, none⟩ = some (.float .f64 0) := by rw [Lib.cell_of_heap hgP2]; rfl
    have z2 : w2.frozen? ⟨P, 2, none⟩ = false := Lib.frozen_of_heap hgP2 2
    have e3 : w2.cell? ⟨P, 3, none⟩ = some (.string ⟨#[]⟩) := by rw [Lib.cell_of_heap hgP2]; rfl
    have z3 : w2.frozen? ⟨P, 3, none⟩ = false := Lib.frozen_of_heap hgP2 3
    have e4 : w2.cell? ⟨P, 4, none⟩ = some (.slice none 0 0) := by rw [Lib.cell_of_heap hgP2]; rfl
    have z4 : w2.frozen? ⟨P, 4, none⟩ = false := Lib.frozen_of_heap hgP2 4
    have e5 : w2.cell? ⟨P, 5, none⟩ = some (.slice none 0 0) := by rw [Lib.cell_of_heap hgP2]; rfl
    have z5 : w2.frozen? ⟨P, 5, none⟩ = false := Lib.frozen_of_heap hgP2 5
    have hgF : (((((((w2).setCell ⟨P, 0, none⟩ (.int .i64 0)).setCell ⟨P, 1, none⟩ (.int .i64 0)).setCell ⟨P, 2, none⟩ (.float .f64 0)).setCell ⟨P, 3, none⟩ (.string ⟨#[]⟩)).setCell ⟨P, 4, none⟩ (.slice none 0 0)).setCell ⟨P, 5, none⟩ (.slice none 0 0)).heap[P]? = some (.cells #[.int .i64 0, .int .i64 0, .float .f64 0, .string ⟨#[]⟩, .slice none 0 0, .slice none 0 0] 57 (0, 0)) := heap_setN (heap_setN (heap_setN (heap_setN (heap_setN (heap_setN hgP2 0 _) 1 _) 2 _) 3 _) 4 _) 5 _
    have FF := ((((((Fr.refl [P] w2).setCell ⟨P, 0, none⟩ (by simp) (.int .i64 0)).setCell ⟨P, 1, none⟩ (by simp) (.int .i64 0)).setCell ⟨P, 2, none⟩ (by simp) (.float .f64 0)).setCell ⟨P, 3, none⟩ (by simp) (.string ⟨#[]⟩)).setCell ⟨P, 4, none⟩ (by simp) (.slice none 0 0)).setCell ⟨P, 5, none⟩ (by simp) (.slice none 0 0)
    go_wp2_with fail
    clear e0 z0 e1 z1 e2 z2 e3 z3 e4 z4 e5 z5
    generalize ((((((w2).setCell ⟨P, 0, none⟩ (.int .i64 0)).setCell ⟨P, 1, none⟩ (.int .i64 0)).setCell ⟨P, 2, none⟩ (.float .f64 0)).setCell ⟨P, 3, none⟩ (.string ⟨#[]⟩)).setCell ⟨P, 4, none⟩ (.slice none 0 0)).setCell ⟨P, 5, none⟩ (.slice none 0 0) = X at *
    have y0 : X.cell? ⟨P, 0, none⟩ = some (.int .i64 0) := by rw [Lib.cell_of_heap hgF]; rfl
    have y1 : X.cell? ⟨P, 1, none⟩ = some (.int .i64 0) := by rw [Lib.cell_of_heap hgF]; rfl
    have y2 : X.cell? ⟨P, 2, none⟩ = some (.float .f64 0) := by rw [Lib.cell_of_heap hgF]; rfl
    have y3 : X.cell? ⟨P, 3, none⟩ = some (.string ⟨#[]⟩) := by rw [Lib.cell_of_heap hgF]; rfl
    have y4 : X.cell? ⟨P, 4, none⟩ = some (.slice none 0 0) := by rw [Lib.cell_of_heap hgF]; rfl
    have y5 : X.cell? ⟨P, 5, none⟩ = some (.slice none 0 0) := by rw [Lib.cell_of_heap hgF]; rfl
    have hrX := RdAt.kept h2 FF (by simp; omega)
    have hff := ((A2.mono (m := [b, P]) (by simp)).trans (FF.mono (m := [b, P]) (by simp))).fewer (by omega)
    refine bodyPost_ret (v := .agg #[.int .i64 0, .int .i64 0, .float .f64 0, .string ⟨#[]⟩, .slice none 0 0, .slice none 0 0]) (by simp [results, Tryz.results33, go_sem, y0, y1, y2, y3, y4, y5]) rfl ?_
    exact ⟨noVT, _, none, rfl, ValIn.leaf (t := []) (by omega) (by omega) (by unfold F64; omega) (by simp) 12, hrX, hff, rfl⟩
  | some l =>
    obtain ⟨k, e0, hg0, hk0, g1, _⟩ := h0'
    obtain ⟨he0, hl⟩ := g1 _ rfl
    subst he0
    have h0' : RdAt b s (some l) p ((w.alloc (.cells #[.pointer (some ⟨b, 0, none⟩)] 93)).alloc (.cells #[.int .i64 0, .int .i64 0, .float .f64 0, .string ⟨#[]⟩, .slice none 0 0, .slice none 0 0] 57)) := ⟨k, 0, hg0, hk0, (fun l h => by cases h; exact ⟨rfl, hl⟩), (fun h => nomatch h)⟩
    have hLs : s.data.toList.length = s.size := by simp
    have hC := fun w => rReadValue_any s hs k hk0 w
    rw [← hl] at hC
    clear g1 hg0
    cases hr : rdVal l with
    | none =>
      have HR := Lib.hid (show (some l).bind rdVal = none from hr)
      rw [hr] at hC
      clear hr
      have HC := Lib.hid (fun w => (show Calls Tryz.prog 57 #[.string s, .int .i64 (k : Int)] w (fun e w' => ∃ x, x ≠ 0 ∧ e = .returned (.tuple #[.agg #[.int .i64 0, .int .i64 0, .float .f64 0, .string ⟨#[]⟩, .slice none 0 0, .slice none 0 0], .int .i64 0, .int .i64 x]) ∧ Below w.heap.size w w') from hC w))
      have hmx : max (0 : Int) (k : Int) = (k : Int) := by omega
      clear hC
      go_enter Tryz.func33, Tryz.ntmps33
      go_upto_region 1 with (fail)
      clear hPg
      generalize (w.alloc (.cells #[.pointer (some ⟨b, 0, none⟩)] 93)).alloc (.cells #[.int .i64 0, .int .i64 0, .float .f64 0, .string ⟨#[]⟩, .slice none 0 0, .slice none 0 0] 57) = W1 at *
      have x0 : W1.cell? ⟨w.heap.size, 0, none⟩ = some (.pointer (some ⟨b, 0, none⟩)) := by rw [Lib.cell_of_heap hgB']; rfl
      go_wp2_with fail
      refine (HO.out _ h0').mono ?_; rintro e w2 ⟨rfl, h2, hf2⟩
      have hgB2 := hf2.at hgB' hnB
      have hgP2 := hf2.at hgP hnP
      have A2 := hF0'.trans hf2
      clear x0 hgP h0' hf2 hgB' hF0'
      have x0 : w2.cell? ⟨w.heap.size, 0, none⟩ = some (.pointer (some ⟨b, 0, none⟩)) := by rw [Lib.cell_of_heap hgB2]; rfl
      obtain ⟨k2, e2, hgr, hkr, g1, g2⟩ := h2
      obtain ⟨he2, hl2⟩ := g1 _ rfl
      subst he2
      have hkk : k2 = k := by
        have h9 := congrArg List.length (hl2.symm.trans hl)
        rw [List.length_drop, List.length_drop, hLs] at h9
        omega
      subst hkk
      have c0 : w2.cell? ⟨b, 0, none⟩ = some (.string s) := by rw [Lib.cell_of_heap hgr]; rfl
      have c1 : w2.cell? ⟨b, 1, none⟩ = some (.int .i64 (k2 : Int)) := by rw [Lib.cell_of_heap hgr]; rfl
      have HGR := Lib.hid hgr
      clear g1 g2 hgr hl2 hl
      have hbl2 := lt_of_block HGR.out
      have c0' : (w2.alloc (.cells #[.int .i64 0, .int .i64 0, .float .f64 0, .string ⟨#[]⟩, .slice none 0 0, .slice none 0 0] 57)).cell? ⟨b, 0, none⟩ = some (.string s) := by rw [Lib.cell_of_heap ((Lib.alloc_old w2 _ _ hbl2).trans HGR.out)]; rfl
      have c1' : (w2.alloc (.cells #[.int .i64 0, .int .i64 0, .float .f64 0, .string ⟨#[]⟩, .slice none 0 0, .slice none 0 0] 57)).cell? ⟨b, 1, none⟩ = some (.int .i64 (k2 : Int)) := by rw [Lib.cell_of_heap ((Lib.alloc_old w2 _ _ hbl2).trans HGR.out)]; rfl
      have x0' : (w2.alloc (.cells #[.int .i64 0, .int .i64 0, .float .f64 0, .string ⟨#[]⟩, .slice none 0 0, .slice none 0 0] 57)).cell? ⟨w.heap.size, 0, none⟩ = some (.pointer (some ⟨b, 0, none⟩)) := by rw [Lib.cell_of_heap ((Lib.alloc_old w2 _ _ (lt_of_block hgB2)).trans hgB2)]; rfl
      go_upto_region 3 with (fail)
      go_cut [3, 4, 5] (fun qv nv ev wx => ∃ Q x, qv = .pointer (some ⟨Q, 0, none⟩) ∧ nv = .int .i64 0 ∧ ev = .int .i64 x ∧ InMid b p k2 0 s P Q w wx #[.int .i64 0, .int .i64 0, .float .f64 0, .string ⟨#[]⟩, .slice none 0 0, .slice none 0 0] ∧ x ≠ 0)
      case first =>
       have hA0 : Below w2.heap.size w2 (w2.alloc (.cells #[.int .i64 0, .int .i64 0, .float .f64 0, .string ⟨#[]⟩, .slice none 0 0, .slice none 0 0] 57)) := (Below.refl w2.heap.size w2).alloc (Nat.le_refl _) _
       have HK := Lib.hid (fun x (h : Below w2.heap.size w2 x) => (show x.cell? ⟨b, 0, none⟩ = some (.string s) ∧ x.cell? ⟨b, 1, none⟩ = some (.int .i64 (k2 : Int)) ∧ x.cell? ⟨w.heap.size, 0, none⟩ = some (.pointer (some ⟨b, 0, none⟩)) from
         ⟨(h.cell (p := ⟨b, 0, none⟩) hbl2).trans c0, (h.cell (p := ⟨b, 1, none⟩) hbl2).trans c1, (h.cell (p := ⟨w.heap.size, 0, none⟩) (lt_of_block hgB2)).trans x0⟩))
       go_region_held3 (fun w' => w'.cell? ⟨b, 0, none⟩ = some (.string s) ∧ w'.cell? ⟨b, 1, none⟩ = some (.int .i64 (k2 : Int)) ∧ w'.cell? ⟨w.heap.size, 0, none⟩ = some (.pointer (some ⟨b, 0, none⟩))) (first | with_reducible exact ⟨c0, c1, x0⟩ | with_reducible exact ⟨c0', c1', x0'⟩ | with_reducible exact HK.out _ hq1 | with_reducible exact HK.out _ (hq1.alloc hq1.size _) | with_reducible exact HK.out _ hA0.drew | with_reducible exact HK.out _ ((((((hq1.setCell (p := ⟨w2.heap.size, 0, none⟩) (Nat.le_refl _) _).setCell (p := ⟨w2.heap.size, 1, none⟩) (Nat.le_refl _) _).setCell (p := ⟨w2.heap.size, 2, none⟩) (Nat.le_refl _) _).setCell (p := ⟨w2.heap.size, 3, none⟩) (Nat.le_refl _) _).setCell (p := ⟨w2.heap.size, 4, none⟩) (Nat.le_refl _) _).setCell (p := ⟨w2.heap.size, 5, none⟩) (Nat.le_refl _) _) | go_keep) ((first | (go_at_call 57; (with_reducible refine (HC.out (w2.alloc (.cells #[.int .i64 0, .int .i64 0, .float .f64 0, .string ⟨#[]⟩, .slice none 0 0, .slice none 0 0] 57)).drew).mono ?_); rintro e u1 ⟨x, hx, rfl, hb1⟩; have hq1 := hA0.drew.trans (hb1.mono hA0.size); have hgn := (hb1.block w2.heap.size (by simp)).trans (heap_alloc_new w2 (.cells #[.int .i64 0, .int .i64 0, .float .f64 0, .string ⟨#[]⟩, .slice none 0 0, .slice none 0 0] 57)); have n0 : u1.cell? ⟨w2.heap.size, 0, none⟩ = some (.int .i64 0) := (by rw [Lib.cell_of_heap hgn]; rfl); have m0 : u1.frozen? ⟨w2.heap.size, 0, none⟩ = false := Lib.frozen_of_heap hgn 0; have n1 : u1.cell? ⟨w2.heap.size, 1, none⟩ = some (.int .i64 0) := (by rw [Lib.cell_of_heap hgn]; rfl); have m1 : u1.frozen? ⟨w2.heap.size, 1, none⟩ = false := Lib.frozen_of_heap hgn 1; have n2 : u1.cell? ⟨w2.heap.size, 2, none⟩ = some (.float .f64 0) := (by rw [Lib.cell_of_heap hgn]; rfl); have m2 : u1.frozen? ⟨w2.heap.size, 2, none⟩ = false := Lib.frozen_of_heap hgn 2; have n3 : u1.cell? ⟨w2.heap.size, 3, none⟩ = some (.string ⟨#[]⟩) := (by rw [Lib.cell_of_heap hgn]; rfl); have m3 : u1.frozen? ⟨w2.heap.size, 3, none⟩ = false := Lib.frozen_of_heap hgn 3; have n4 : u1.cell? ⟨w2.heap.size, 4, none⟩ = some (.slice none 0 0) := (by rw [Lib.cell_of_heap hgn]; rfl); have m4 : u1.frozen? ⟨w2.heap.size, 4, none⟩ = false := Lib.frozen_of_heap hgn 4; have n5 : u1.cell? ⟨w2.heap.size, 5, none⟩ = some (.slice none 0 0) := (by rw [Lib.cell_of_heap hgn]; rfl); have m5 : u1.frozen? ⟨w2.heap.size, 5, none⟩ = false := Lib.frozen_of_heap hgn 5) | (go_at_call 57; (with_reducible refine (HC.out w2.drew).mono ?_); rintro e u1 ⟨x, hx, rfl, hb1⟩; have hq1 := undrew hb1)))
       all_goals
         first
         | (have tok := hgn
            have hb2 : Below w2.heap.size w2 u1 := hq1
            have hgrU := (hb2.block _ (lt_of_block HGR.out)).trans HGR.out
            have hgBU := (hb2.block _ (lt_of_block hgB2)).trans hgB2
            have hgPU := (hb2.block _ (lt_of_block hgP2)).trans hgP2
            have FS := ((((((Fr.refl [w2.heap.size] u1).setCell ⟨w2.heap.size, 0, none⟩ (by simp) (.int .i64 0)).setCell ⟨w2.heap.size, 1, none⟩ (by simp) (.int .i64 0)).setCell ⟨w2.heap.size, 2, none⟩ (by simp) (.float .f64 0)).setCell ⟨w2.heap.size, 3, none⟩ (by simp) (.string ⟨#[]⟩)).setCell ⟨w2.heap.size, 4, none⟩ (by simp) (.slice none 0 0)).setCell ⟨w2.heap.size, 5, none⟩ (by simp) (.slice none 0 0)
            have hgQ3 : (((((((u1).setCell ⟨w2.heap.size, 0, none⟩ (.int .i64 0)).setCell ⟨w2.heap.size, 1, none⟩ (.int .i64 0)).setCell ⟨w2.heap.size, 2, none⟩ (.float .f64 0)).setCell ⟨w2.heap.size, 3, none⟩ (.string ⟨#[]⟩)).setCell ⟨w2.heap.size, 4, none⟩ (.slice none 0 0)).setCell ⟨w2.heap.size, 5, none⟩ (.slice none 0 0)).heap[w2.heap.size]? = some (.cells #[.int .i64 0, .int .i64 0, .float .f64 0, .string ⟨#[]⟩, .slice none 0 0, .slice none 0 0] 57 (0, 0)) := heap_setN (heap_setN (heap_setN (heap_setN (heap_setN (heap_setN hgn 0 _) 1 _) 2 _) 3 _) 4 _) 5 _
            have A3 := ((A2.trans (Fr.of_below hb2)).mono (m := [b, w2.heap.size]) (by simp)).trans (FS.mono (m := [b, w2.heap.size]) (by simp))
            replace A3 := A3.fewer (by have := A2.size; omega)
            have hgr3 := FS.at hgrU (by simp; omega)
            have hQ1 : P < w2.heap.size := lt_of_block hgP2
            have hQ2 : b < w2.heap.size := hbl2
            have hQ3 : w.heap.size < w2.heap.size := lt_of_block hgB2
            have hgB3 := FS.at hgBU (by simp; omega)
            have hgP3 := FS.at hgPU (by simp; omega)
            clear n0 m0 n1 m1 n2 m2 n3 m3 n4 m4 n5 m5 hgn tok hb1 hb2 hq1 FS hgrU hgBU hgPU
            go_wp2_with fail
            go_meet
            exact ⟨_, x, rfl, rfl, rfl, ⟨hgQ3, hgr3, hgB3, hgP3, A3, hQ1, hQ2, hQ3⟩, hx⟩)
         | (replace hb1 := hq1
            have hgrU := (hb1.block _ (lt_of_block HGR.out)).trans HGR.out
            have hgBU := (hb1.block _ (lt_of_block hgB2)).trans hgB2
            have hgPU := (hb1.block _ (lt_of_block hgP2)).trans hgP2
            have A3 := (A2.trans (Fr.of_below hb1)).alloc (.cells #[.int .i64 0, .int .i64 0, .float .f64 0, .string ⟨#[]⟩, .slice none 0 0, .slice none 0 0] 57)
            have hgr3 := (Lib.alloc_old u1 (.cells #[.int .i64 0, .int .i64 0, .float .f64 0, .string ⟨#[]⟩, .slice none 0 0, .slice none 0 0] 57) b (lt_of_block hgrU)).trans hgrU
            have hgB3 := (Lib.alloc_old u1 (.cells #[.int .i64 0, .int .i64 0, .float .f64 0, .string ⟨#[]⟩, .slice none 0 0, .slice none 0 0] 57) _ (lt_of_block hgBU)).trans hgBU
            have hgP3 := (Lib.alloc_old u1 (.cells #[.int .i64 0, .int .i64 0, .float .f64 0, .string ⟨#[]⟩, .slice none 0 0, .slice none 0 0] 57) _ (lt_of_block hgPU)).trans hgPU
            have hgQ3 := heap_alloc_new u1 (.cells #[.int .i64 0, .int .i64 0, .float .f64 0, .string ⟨#[]⟩, .slice none 0 0, .slice none 0 0] 57)
            have hQ1 := lt_of_block hgPU
            have hQ2 := lt_of_block hgrU
            have hQ3 := lt_of_block hgBU
            clear hb1 hq1 hgrU hgBU hgPU
            go_wp2_with fail
            go_meet
            exact ⟨_, x, rfl, rfl, rfl, ⟨hgQ3, hgr3, hgB3, hgP3, A3, hQ1, hQ2, hQ3⟩, hx⟩)
      case rest =>
        obtain ⟨Q, x, rfl, rfl, rfl, ⟨hgQ3, hgr3, hgB3, hgP3, A3, hQ1, hQ2, hQ3⟩, hx⟩ := hcut
        clear A2 c0 c1 x0 c0' c1' x0' hgB2 hgP2
        generalize wc = w4 at *
        have c2 : w4.cell? ⟨b, 2, none⟩ = some (.int .i64 0) := by rw [Lib.cell_of_heap hgr3]; rfl
        have z2 : w4.frozen? ⟨b, 2, none⟩ = false := Lib.frozen_of_heap hgr3 2
        have x0 : w4.cell? ⟨w.heap.size, 0, none⟩ = some (.pointer (some ⟨b, 0, none⟩)) := by rw [Lib.cell_of_heap hgB3]; rfl
        have F5 := (Fr.refl [b] w4).setCell ⟨b, 2, none⟩ (by simp) (.int .i64 x)
        have hgr5 : (w4.setCell ⟨b, 2, none⟩ (.int .i64 x)).heap[b]? = some (.cells #[.string s, .int .i64 (k2 : Int), .int .i64 x, .int .i64 (p : Int)] 98 (0, 0)) := heap_setN hgr3 2 _
        have hgB5 := F5.at hgB3 hnB
        have hgP5 := F5.at hgP3 hnP
        have hgQ5 := F5.at hgQ3 (by simp; omega)
        have A5 := A3.trans F5
        go_upto_region 5 with (fail)
        clear c2 z2 x0 hgr3 hgB3 hgP3 hgQ3 A3 F5 
        generalize w4.setCell ⟨b, 2, none⟩ (.int .i64 x) = w5 at *
        have c1 : w5.cell? ⟨b, 1, none⟩ = some (.int .i64 (k2 : Int)) := by rw [Lib.cell_of_heap hgr5]; rfl
        have z1 : w5.frozen? ⟨b, 1, none⟩ = false := Lib.frozen_of_heap hgr5 1
        have x0 : w5.cell? ⟨w.heap.size, 0, none⟩ = some (.pointer (some ⟨b, 0, none⟩)) := by rw [Lib.cell_of_heap hgB5]; rfl
        have F6 := (Fr.refl [b] w5).setCell ⟨b, 1, none⟩ (by simp) (.int .i64 (k2 : Int))
        have hgr6 : (w5.setCell ⟨b, 1, none⟩ (.int .i64 (k2 : Int))).heap[b]? = some (.cells #[.string s, .int .i64 (k2 : Int), .int .i64 x, .int .i64 (p : Int)] 98 (0, 0)) := heap_setN hgr5 1 _
        have hgP6 := F6.at hgP5 hnP
        have hgQ6 := F6.at hgQ5 (by simp; omega)
        have A6 := A5.trans F6
        go_cut [] (fun wx => Alike2 (w5.setCell ⟨b, 1, none⟩ (.int .i64 (k2 : Int))) wx)
        case first =>
          go_region_law (fail)
          all_goals
            go_wp2_with fail
            go_meet
            first | exact .inl rfl | exact .inr rfl
        case rest =>
          have hw6 := hcut
          go_upto_region 6 with (fail)
          clear c1 z1 x0 hgr5 hgB5 hgP5 hgQ5 A5 F6 hcut 
          generalize w5.setCell ⟨b, 1, none⟩ (.int .i64 (k2 : Int)) = w6 at *
          have hr6 : RdAt b s none p w6 := ⟨k2, x, hgr6, hkr, (fun _ h => nomatch h), fun _ => hx⟩
          have hgP7 : wc.heap[P]? = _ := hw6.at hgP6
          have hgQ7 : wc.heap[Q]? = _ := hw6.at hgQ6
          have A7 : Fr [b] w wc := hw6.fr A6
          replace hr6 := hw6.rd hr6
          clear hgr6 hgP6 hgQ6 A6 
          clear hw6
          generalize wc = w7 at *
          have q0 : w7.cell? ⟨Q, 0, none⟩ = some (.int .i64 0) := by rw [Lib.cell_of_heap hgQ7]; rfl
          have q1 : w7.cell? ⟨Q, 1, none⟩ = some (.int .i64 0) := by rw [Lib.cell_of_heap hgQ7]; rfl
          have q2 : w7.cell? ⟨Q, 2, none⟩ = some (.float .f64 0) := by rw [Lib.cell_of_heap hgQ7]; rfl
          have q3 : w7.cell? ⟨Q, 3, none⟩ = some (.string ⟨#[]⟩) := by rw [Lib.cell_of_heap hgQ7]; rfl
          have q4 : w7.cell? ⟨Q, 4, none⟩ = some (.slice none 0 0) := by rw [Lib.cell_of_heap hgQ7]; rfl
          have q5 : w7.cell? ⟨Q, 5, none⟩ = some (.slice none 0 0) := by rw [Lib.cell_of_heap hgQ7]; rfl
          have e0 : w7.cell? ⟨P, 0, none⟩ = some (.int .i64 0) := by rw [Lib.cell_of_heap hgP7]; rfl
          have z0 : w7.frozen? ⟨P, 0, none⟩ = false := Lib.frozen_of_heap hgP7 0
          have e1 : w7.cell? ⟨P, 1, none⟩ = some (.int .i64 0) := by rw [Lib.cell_of_heap hgP7]; rfl
          have z1 : w7.frozen? ⟨P, 1, none⟩ = false := Lib.frozen_of_heap hgP7 1
          have e2 : w7.cell? ⟨P, 2, none⟩ = some (.float .f64 0) := by rw [Lib.cell_of_heap hgP7]; rfl
          have z2 : w7.frozen? ⟨P, 2, none⟩ = false := Lib.frozen_of_heap hgP7 2
          have e3 : w7.cell? ⟨P, 3, none⟩ = some (.string ⟨#[]⟩) := by rw [Lib.cell_of_heap hgP7]; rfl
          have z3 : w7.frozen? ⟨P, 3, none⟩ = false := Lib.frozen_of_heap hgP7 3
          have e4 : w7.cell? ⟨P, 4, none⟩ = some (.slice none 0 0) := by rw [Lib.cell_of_heap hgP7]; rfl
          have z4 : w7.frozen? ⟨P, 4, none⟩ = false := Lib.frozen_of_heap hgP7 4
          have e5 : w7.cell? ⟨P, 5, none⟩ = some (.slice none 0 0) := by rw [Lib.cell_of_heap hgP7]; rfl
          have z5 : w7.frozen? ⟨P, 5, none⟩ = false := Lib.frozen_of_heap hgP7 5
          have hgF : (((((((w7).setCell ⟨P, 0, none⟩ (.int .i64 0)).setCell ⟨P, 1, none⟩ (.int .i64 0)).setCell ⟨P, 2, none⟩ (.float .f64 0)).setCell ⟨P, 3, none⟩ (.string ⟨#[]⟩)).setCell ⟨P, 4, none⟩ (.slice none 0 0)).setCell ⟨P, 5, none⟩ (.slice none 0 0)).heap[P]? = some (.cells #[.int .i64 0, .int .i64 0, .float .f64 0, .string ⟨#[]⟩, .slice none 0 0, .slice none 0 0] 57 (0, 0)) := heap_setN (heap_setN (heap_setN (heap_setN (heap_setN (heap_setN hgP7 0 _) 1 _) 2 _) 3 _) 4 _) 5 _
          have FF := ((((((Fr.refl [P] w7).setCell ⟨P, 0, none⟩ (by simp) (.int .i64 0)).setCell ⟨P, 1, none⟩ (by simp) (.int .i64 0)).setCell ⟨P, 2, none⟩ (by simp) (.float .f64 0)).setCell ⟨P, 3, none⟩ (by simp) (.string ⟨#[]⟩)).setCell ⟨P, 4, none⟩ (by simp) (.slice none 0 0)).setCell ⟨P, 5, none⟩ (by simp) (.slice none 0 0)
          go_wp2_with fail
          clear e0 z0 e1 z1 e2 z2 e3 z3 e4 z4 e5 z5
          generalize ((((((w7).setCell ⟨P, 0, none⟩ (.int .i64 0)).setCell ⟨P, 1, none⟩ (.int .i64 0)).setCell ⟨P, 2, none⟩ (.float .f64 0)).setCell ⟨P, 3, none⟩ (.string ⟨#[]⟩)).setCell ⟨P, 4, none⟩ (.slice none 0 0)).setCell ⟨P, 5, none⟩ (.slice none 0 0) = X at *
          have y0 : X.cell? ⟨P, 0, none⟩ = some (.int .i64 0) := by rw [Lib.cell_of_heap hgF]; rfl
          have y1 : X.cell? ⟨P, 1, none⟩ = some (.int .i64 0) := by rw [Lib.cell_of_heap hgF]; rfl
          have y2 : X.cell? ⟨P, 2, none⟩ = some (.float .f64 0) := by rw [Lib.cell_of_heap hgF]; rfl
          have y3 : X.cell? ⟨P, 3, none⟩ = some (.string ⟨#[]⟩) := by rw [Lib.cell_of_heap hgF]; rfl
          have y4 : X.cell? ⟨P, 4, none⟩ = some (.slice none 0 0) := by rw [Lib.cell_of_heap hgF]; rfl
          have y5 : X.cell? ⟨P, 5, none⟩ = some (.slice none 0 0) := by rw [Lib.cell_of_heap hgF]; rfl
          have hrX := RdAt.kept hr6 FF (by simp; omega)
          have hff := ((A7.mono (m := [b, P]) (by simp)).trans (FF.mono (m := [b, P]) (by simp))).fewer (by omega)
          refine bodyPost_ret (v := .agg #[.int .i64 0, .int .i64 0, .float .f64 0, .string ⟨#[]⟩, .slice none 0 0, .slice none 0 0]) (by simp [results, Tryz.results33, go_sem, y0, y1, y2, y3, y4, y5]) rfl ?_
          exact ⟨noVT, _, none, rfl, ValIn.leaf (t := []) (by omega) (by omega) (by unfold F64; omega) (by simp) 12, hrX, hff, by rw [HR.out]; rfl⟩
    | some r =>
      obtain ⟨v, l2⟩ := r
      have HR := Lib.hid (show (some l).bind rdVal = some (v, l2) from hr)
      rw [hr] at hC
      have hdec := (rdVal_dec hr).1
      rw [hl] at hdec
      obtain ⟨hs1, hs2⟩ := suf_of hdec (by omega)
      rw [hLs] at hs1 hs2
      obtain ⟨n, hn⟩ : ∃ n, n = s.size - l2.length := ⟨_, rfl⟩
      have hC : ∀ w, Calls Tryz.prog 57 #[.string s, .int .i64 (k : Int)] w (fun e w' => ∃ cs, e = .returned (.tuple #[.agg cs, .int .i64 (n : Int), .int .i64 0]) ∧ ValIn (fun g => w.heap.size ≤ g) w' 13 v cs ∧ Below w.heap.size w w') := by
        intro w; rw [hn]; exact hC w
      rw [← hn] at hs1
      have HL2 := Lib.hid hs1
      have hnl : n ≤ s.size := by omega
      have hkn : k ≤ n := by omega
      clear hr hdec hs1 hs2 hn
      have HC := Lib.hid (fun w => (show Calls Tryz.prog 57 #[.string s, .int .i64 (k : Int)] w (fun e w' => ∃ cs, e = .returned (.tuple #[.agg cs, .int .i64 (n : Int), .int .i64 0]) ∧ ValIn (fun g => w.heap.size ≤ g) w' 13 v cs ∧ Below w.heap.size w w') from hC w))
      have hmx : max (n : Int) (k : Int) = (n : Int) := by omega
      clear hC
      go_enter Tryz.func33, Tryz.ntmps33
      go_upto_region 1 with (fail)
      clear hPg
      generalize (w.alloc (.cells #[.pointer (some ⟨b, 0, none⟩)] 93)).alloc (.cells #[.int .i64 0, .int .i64 0, .float .f64 0, .string ⟨#[]⟩, .slice none 0 0, .slice none 0 0] 57) = W1 at *
      have x0 : W1.cell? ⟨w.heap.size, 0, none⟩ = some (.pointer (some ⟨b, 0, none⟩)) := by rw [Lib.cell_of_heap hgB']; rfl
      go_wp2_with fail
      refine (HO.out _ h0').mono ?_; rintro e w2 ⟨rfl, h2, hf2⟩
      have hgB2 := hf2.at hgB' hnB
      have hgP2 := hf2.at hgP hnP
      have A2 := hF0'.trans hf2
      clear x0 hgP h0' hf2 hgB' hF0'
      have x0 : w2.cell? ⟨w.heap.size, 0, none⟩ = some (.pointer (some ⟨b, 0, none⟩)) := by rw [Lib.cell_of_heap hgB2]; rfl
      obtain ⟨k2, e2, hgr, hkr, g1, g2⟩ := h2
      obtain ⟨he2, hl2⟩ := g1 _ rfl
      subst he2
      have hkk : k2 = k := by
        have h9 := congrArg List.length (hl2.symm.trans hl)
        rw [List.length_drop, List.length_drop, hLs] at h9
        omega
      subst hkk
      have c0 : w2.cell? ⟨b, 0, none⟩ = some (.string s) := by rw [Lib.cell_of_heap hgr]; rfl
      have c1 : w2.cell? ⟨b, 1, none⟩ = some (.int .i64 (k2 : Int)) := by rw [Lib.cell_of_heap hgr]; rfl
      have HGR := Lib.hid hgr
      clear g1 g2 hgr hl2 hl
      have hbl2 := lt_of_block HGR.out
      have c0' : (w2.alloc (.cells #[.int .i64 0, .int .i64 0, .float .f64 0, .string ⟨#[]⟩, .slice none 0 0, .slice none 0 0] 57)).cell? ⟨b, 0, none⟩ = some (.string s) := by rw [Lib.cell_of_heap ((Lib.alloc_old w2 _ _ hbl2).trans HGR.out)]; rfl
      have c1' : (w2.alloc (.cells #[.int .i64 0, .int .i64 0, .float .f64 0, .string ⟨#[]⟩, .slice none 0 0, .slice none 0 0] 57)).cell? ⟨b, 1, none⟩ = some (.int .i64 (k2 : Int)) := by rw [Lib.cell_of_heap ((Lib.alloc_old w2 _ _ hbl2).trans HGR.out)]; rfl
      have x0' : (w2.alloc (.cells #[.int .i64 0, .int .i64 0, .float .f64 0, .string ⟨#[]⟩, .slice none 0 0, .slice none 0 0] 57)).cell? ⟨w.heap.size, 0, none⟩ = some (.pointer (some ⟨b, 0, none⟩)) := by rw [Lib.cell_of_heap ((Lib.alloc_old w2 _ _ (lt_of_block hgB2)).trans hgB2)]; rfl
      go_upto_region 3 with (fail)
      go_cut [3, 4, 5] (fun qv nv ev wx => ∃ Q na nl nc ia il ic, qv = .pointer (some ⟨Q, 0, none⟩) ∧ nv = .int .i64 (n : Int) ∧ ev = .int .i64 0 ∧ InMid b p k2 0 s P Q w wx #[.int .i64 v.kind, .int .i64 v.num, .float .f64 v.flt, .string ⟨v.str.toArray⟩, .slice na nl nc, .slice ia il ic] ∧ ValIn (fun g => P < g) wx 13 v #[.int .i64 v.kind, .int .i64 v.num, .float .f64 v.flt, .string ⟨v.str.toArray⟩, .slice na nl nc, .slice ia il ic])
      case first =>
       have hA0 : Below w2.heap.size w2 (w2.alloc (.cells #[.int .i64 0, .int .i64 0, .float .f64 0, .string ⟨#[]⟩, .slice none 0 0, .slice none 0 0] 57)) := (Below.refl w2.heap.size w2).alloc (Nat.le_refl _) _
       have HK := Lib.hid (fun x (h : Below w2.heap.size w2 x) => (show x.cell? ⟨b, 0, none⟩ = some (.string s) ∧ x.cell? ⟨b, 1, none⟩ = some (.int .i64 (k2 : Int)) ∧ x.cell? ⟨w.heap.size, 0, none⟩ = some (.pointer (some ⟨b, 0, none⟩)) from
         ⟨(h.cell (p := ⟨b, 0, none⟩) hbl2).trans c0, (h.cell (p := ⟨b, 1, none⟩) hbl2).trans c1, (h.cell (p := ⟨w.heap.size, 0, none⟩) (lt_of_block hgB2)).trans x0⟩))
       go_region_held3 (fun w' => w'.cell? ⟨b, 0, none⟩ = some (.string s) ∧ w'.cell? ⟨b, 1, none⟩ = some (.int .i64 (k2 : Int)) ∧ w'.cell? ⟨w.heap.size, 0, none⟩ = some (.pointer (some ⟨b, 0, none⟩))) (first | with_reducible exact ⟨c0, c1, x0⟩ | with_reducible exact ⟨c0', c1', x0'⟩ | with_reducible exact HK.out _ hq1 | with_reducible exact HK.out _ (hq1.alloc hq1.size _) | with_reducible exact HK.out _ hA0.drew | with_reducible exact HK.out _ ((((((hq1.setCell (p := ⟨w2.heap.size, 0, none⟩) (Nat.le_refl _) _).setCell (p := ⟨w2.heap.size, 1, none⟩) (Nat.le_refl _) _).setCell (p := ⟨w2.heap.size, 2, none⟩) (Nat.le_refl _) _).setCell (p := ⟨w2.heap.size, 3, none⟩) (Nat.le_refl _) _).setCell (p := ⟨w2.heap.size, 4, none⟩) (Nat.le_refl _) _).setCell (p := ⟨w2.heap.size, 5, none⟩) (Nat.le_refl _) _) | go_keep) ((first | (go_at_call 57; (with_reducible refine (HC.out (w2.alloc (.cells #[.int .i64 0, .int .i64 0, .float .f64 0, .string ⟨#[]⟩, .slice none 0 0, .slice none 0 0] 57)).drew).mono ?_); rintro e u1 ⟨cs, rfl, V1, hb1⟩; obtain ⟨na, nl, nc, ia, il, ic, rfl⟩ := V1.six; have hq1 := hA0.drew.trans (hb1.mono hA0.size); have hgn := (hb1.block w2.heap.size (by simp)).trans (heap_alloc_new w2 (.cells #[.int .i64 0, .int .i64 0, .float .f64 0, .string ⟨#[]⟩, .slice none 0 0, .slice none 0 0] 57)); have n0 : u1.cell? ⟨w2.heap.size, 0, none⟩ = some (.int .i64 0) := (by rw [Lib.cell_of_heap hgn]; rfl); have m0 : u1.frozen? ⟨w2.heap.size, 0, none⟩ = false := Lib.frozen_of_heap hgn 0; have n1 : u1.cell? ⟨w2.heap.size, 1, none⟩ = some (.int .i64 0) := (by rw [Lib.cell_of_heap hgn]; rfl); have m1 : u1.frozen? ⟨w2.heap.size, 1, none⟩ = false := Lib.frozen_of_heap hgn 1; have n2 : u1.cell? ⟨w2.heap.size, 2, none⟩ = some (.float .f64 0) := (by rw [Lib.cell_of_heap hgn]; rfl); have m2 : u1.frozen? ⟨w2.heap.size, 2, none⟩ = false := Lib.frozen_of_heap hgn 2; have n3 : u1.cell? ⟨w2.heap.size, 3, none⟩ = some (.string ⟨#[]⟩) := (by rw [Lib.cell_of_heap hgn]; rfl); have m3 : u1.frozen? ⟨w2.heap.size, 3, none⟩ = false := Lib.frozen_of_heap hgn 3; have n4 : u1.cell? ⟨w2.heap.size, 4, none⟩ = some (.slice none 0 0) := (by rw [Lib.cell_of_heap hgn]; rfl); have m4 : u1.frozen? ⟨w2.heap.size, 4, none⟩ = false := Lib.frozen_of_heap hgn 4; have n5 : u1.cell? ⟨w2.heap.size, 5, none⟩ = some (.slice none 0 0) := (by rw [Lib.cell_of_heap hgn]; rfl); have m5 : u1.frozen? ⟨w2.heap.size, 5, none⟩ = false := Lib.frozen_of_heap hgn 5) | (go_at_call 57; (with_reducible refine (HC.out w2.drew).mono ?_); rintro e u1 ⟨cs, rfl, V1, hb1⟩; obtain ⟨na, nl, nc, ia, il, ic, rfl⟩ := V1.six; have hq1 := undrew hb1)))
       all_goals
         first
         | (have tok := hgn
            have hb2 : Below w2.heap.size w2 u1 := hq1
            have hgrU := (hb2.block _ (lt_of_block HGR.out)).trans HGR.out
            have hgBU := (hb2.block _ (lt_of_block hgB2)).trans hgB2
            have hgPU := (hb2.block _ (lt_of_block hgP2)).trans hgP2
            have FS := ((((((Fr.refl [w2.heap.size] u1).setCell ⟨w2.heap.size, 0, none⟩ (by simp) (.int .i64 v.kind)).setCell ⟨w2.heap.size, 1, none⟩ (by simp) (.int .i64 v.num)).setCell ⟨w2.heap.size, 2, none⟩ (by simp) (.float .f64 v.flt)).setCell ⟨w2.heap.size, 3, none⟩ (by simp) (.string ⟨v.str.toArray⟩)).setCell ⟨w2.heap.size, 4, none⟩ (by simp) (.slice na nl nc)).setCell ⟨w2.heap.size, 5, none⟩ (by simp) (.slice ia il ic)
            have hgQ3 : (((((((u1).setCell ⟨w2.heap.size, 0, none⟩ (.int .i64 v.kind)).setCell ⟨w2.heap.size, 1, none⟩ (.int .i64 v.num)).setCell ⟨w2.heap.size, 2, none⟩ (.float .f64 v.flt)).setCell ⟨w2.heap.size, 3, none⟩ (.string ⟨v.str.toArray⟩)).setCell ⟨w2.heap.size, 4, none⟩ (.slice na nl nc)).setCell ⟨w2.heap.size, 5, none⟩ (.slice ia il ic)).heap[w2.heap.size]? = some (.cells #[.int .i64 v.kind, .int .i64 v.num, .float .f64 v.flt, .string ⟨v.str.toArray⟩, .slice na nl nc, .slice ia il ic] 57 (0, 0)) := heap_setN (heap_setN (heap_setN (heap_setN (heap_setN (heap_setN hgn 0 _) 1 _) 2 _) 3 _) 4 _) 5 _
            have A3 := ((A2.trans (Fr.of_below hb2)).mono (m := [b, w2.heap.size]) (by simp)).trans (FS.mono (m := [b, w2.heap.size]) (by simp))
            replace A3 := A3.fewer (by have := A2.size; omega)
            have hgr3 := FS.at hgrU (by simp; omega)
            have hQ1 : P < w2.heap.size := lt_of_block hgP2
            have hQ2 : b < w2.heap.size := hbl2
            have hQ3 : w.heap.size < w2.heap.size := lt_of_block hgB2
            have hgB3 := FS.at hgBU (by simp; omega)
            have hgP3 := FS.at hgPU (by simp; omega)
            have hge : ∀ g, (w2.alloc (.cells #[.int .i64 0, .int .i64 0, .float .f64 0, .string ⟨#[]⟩, .slice none 0 0, .slice none 0 0] 57)).drew.heap.size ≤ g → w2.heap.size + 1 ≤ g := fun g h => (by simpa using h)
            have V3 := V1.kept (T := fun g => P < g) FS.size (fun g hg hl => ⟨Nat.lt_of_lt_of_le hQ1 (Nat.le_of_succ_le (hge g hg)), FS.block g hl (not_one (hge g hg))⟩)
            clear n0 m0 n1 m1 n2 m2 n3 m3 n4 m4 n5 m5 hgn tok hb1 hb2 hq1 FS hgrU hgBU hgPU
            go_wp2_with fail
            go_meet
            exact ⟨_, na, nl, nc, ia, il, ic, rfl, rfl, rfl, ⟨hgQ3, hgr3, hgB3, hgP3, A3, hQ1, hQ2, hQ3⟩, V3⟩)
         | (replace hb1 := hq1
            have hgrU := (hb1.block _ (lt_of_block HGR.out)).trans HGR.out
            have hgBU := (hb1.block _ (lt_of_block hgB2)).trans hgB2
            have hgPU := (hb1.block _ (lt_of_block hgP2)).trans hgP2
            have A3 := (A2.trans (Fr.of_below hb1)).alloc (.cells #[.int .i64 v.kind, .int .i64 v.num, .float .f64 v.flt, .string ⟨v.str.toArray⟩, .slice na nl nc, .slice ia il ic] 57)
            have hgr3 := (Lib.alloc_old u1 (.cells #[.int .i64 v.kind, .int .i64 v.num, .float .f64 v.flt, .string ⟨v.str.toArray⟩, .slice na nl nc, .slice ia il ic] 57) b (lt_of_block hgrU)).trans hgrU
            have hgB3 := (Lib.alloc_old u1 (.cells #[.int .i64 v.kind, .int .i64 v.num, .float .f64 v.flt, .string ⟨v.str.toArray⟩, .slice na nl nc, .slice ia il ic] 57) _ (lt_of_block hgBU)).trans hgBU
            have hgP3 := (Lib.alloc_old u1 (.cells #[.int .i64 v.kind, .int .i64 v.num, .float .f64 v.flt, .string ⟨v.str.toArray⟩, .slice na nl nc, .slice ia il ic] 57) _ (lt_of_block hgPU)).trans hgPU
            have hgQ3 := heap_alloc_new u1 (.cells #[.int .i64 v.kind, .int .i64 v.num, .float .f64 v.flt, .string ⟨v.str.toArray⟩, .slice na nl nc, .slice ia il ic] 57)
            have hQ1 := lt_of_block hgPU
            have hQ2 := lt_of_block hgrU
            have hQ3 := lt_of_block hgBU
            have V3 := V1.grown (T := fun g => P < g) (World.grownBy_alloc u1 (.cells #[.int .i64 v.kind, .int .i64 v.num, .float .f64 v.flt, .string ⟨v.str.toArray⟩, .slice na nl nc, .slice ia il ic] 57) none) (fun g hg _ => ⟨Nat.lt_of_lt_of_le (lt_of_block hgP2) hg, (by simp)⟩)
            clear hb1 hq1 hgrU hgBU hgPU
            go_wp2_with fail
            go_meet
            exact ⟨_, na, nl, nc, ia, il, ic, rfl, rfl, rfl, ⟨hgQ3, hgr3, hgB3, hgP3, A3, hQ1, hQ2, hQ3⟩, V3⟩)
      case rest =>
        obtain ⟨Q, na, nl, nc, ia, il, ic, rfl, rfl, rfl, ⟨hgQ3, hgr3, hgB3, hgP3, A3, hQ1, hQ2, hQ3⟩, V3⟩ := hcut
        clear A2 c0 c1 x0 c0' c1' x0' hgB2 hgP2
        generalize wc = w4 at *
        have c2 : w4.cell? ⟨b, 2, none⟩ = some (.int .i64 0) := by rw [Lib.cell_of_heap hgr3]; rfl
        have z2 : w4.frozen? ⟨b, 2, none⟩ = false := Lib.frozen_of_heap hgr3 2
        have x0 : w4.cell? ⟨w.heap.size, 0, none⟩ = some (.pointer (some ⟨b, 0, none⟩)) := by rw [Lib.cell_of_heap hgB3]; rfl
        have F5 := (Fr.refl [b] w4).setCell ⟨b, 2, none⟩ (by simp) (.int .i64 0)
        have hgr5 : (w4.setCell ⟨b, 2, none⟩ (.int .i64 0)).heap[b]? = some (.cells #[.string s, .int .i64 (k2 : Int), .int .i64 0, .int .i64 (p : Int)] 98 (0, 0)) := heap_setN hgr3 2 _
        have hgB5 := F5.at hgB3 hnB
        have hgP5 := F5.at hgP3 hnP
        have hgQ5 := F5.at hgQ3 (by simp; omega)
        have A5 := A3.trans F5
        have V5 := V3.fr F5 (fun g hg => by simp at hg; subst hg; omega)
        go_upto_region 5 with (fail)
        clear c2 z2 x0 hgr3 hgB3 hgP3 hgQ3 A3 F5 V3
        generalize w4.setCell ⟨b, 2, none⟩ (.int .i64 0) = w5 at *
        have c1 : w5.cell? ⟨b, 1, none⟩ = some (.int .i64 (k2 : Int)) := by rw [Lib.cell_of_heap hgr5]; rfl
        have z1 : w5.frozen? ⟨b, 1, none⟩ = false := Lib.frozen_of_heap hgr5 1
        have x0 : w5.cell? ⟨w.heap.size, 0, none⟩ = some (.pointer (some ⟨b, 0, none⟩)) := by rw [Lib.cell_of_heap hgB5]; rfl
        have F6 := (Fr.refl [b] w5).setCell ⟨b, 1, none⟩ (by simp) (.int .i64 (n : Int))
        have hgr6 : (w5.setCell ⟨b, 1, none⟩ (.int .i64 (n : Int))).heap[b]? = some (.cells #[.string s, .int .i64 (n : Int), .int .i64 0, .int .i64 (p : Int)] 98 (0, 0)) := heap_setN hgr5 1 _
        have hgP6 := F6.at hgP5 hnP
        have hgQ6 := F6.at hgQ5 (by simp; omega)
        have A6 := A5.trans F6
        have V6 := V5.fr F6 (fun g hg => by simp at hg; subst hg; omega)
        go_cut [] (fun wx => Alike2 (w5.setCell ⟨b, 1, none⟩ (.int .i64 (n : Int))) wx)
        case first =>
          go_region_law (fail)
          all_goals
            go_wp2_with fail
            go_meet
            first | exact .inl rfl | exact .inr rfl
        case rest =>
          have hw6 := hcut
          go_upto_region 6 with (fail)
          clear c1 z1 x0 hgr5 hgB5 hgP5 hgQ5 A5 F6 hcut V5
          generalize w5.setCell ⟨b, 1, none⟩ (.int .i64 (n : Int)) = w6 at *
          have hr6 : RdAt b s (some l2) p w6 := ⟨n, 0, hgr6, hnl, (fun l h => by cases h; exact ⟨rfl, HL2.out⟩), (fun h => nomatch h)⟩
          have hgP7 : wc.heap[P]? = _ := hw6.at hgP6
          have hgQ7 : wc.heap[Q]? = _ := hw6.at hgQ6
          have A7 : Fr [b] w wc := hw6.fr A6
          replace hr6 := hw6.rd hr6
          have V7 : ValIn (fun g => P < g) wc 13 v _ := hw6.val V6
          clear hgr6 hgP6 hgQ6 A6 V6
          clear hw6
          generalize wc = w7 at *
          have q0 : w7.cell? ⟨Q, 0, none⟩ = some (.int .i64 v.kind) := by rw [Lib.cell_of_heap hgQ7]; rfl
          have q1 : w7.cell? ⟨Q, 1, none⟩ = some (.int .i64 v.num) := by rw [Lib.cell_of_heap hgQ7]; rfl
          have q2 : w7.cell? ⟨Q, 2, none⟩ = some (.float .f64 v.flt) := by rw [Lib.cell_of_heap hgQ7]; rfl
          have q3 : w7.cell? ⟨Q, 3, none⟩ = some (.string ⟨v.str.toArray⟩) := by rw [Lib.cell_of_heap hgQ7]; rfl
          have q4 : w7.cell? ⟨Q, 4, none⟩ = some (.slice na nl nc) := by rw [Lib.cell_of_heap hgQ7]; rfl
          have q5 : w7.cell? ⟨Q, 5, none⟩ = some (.slice ia il ic) := by rw [Lib.cell_of_heap hgQ7]; rfl
          have e0 : w7.cell? ⟨P, 0, none⟩ = some (.int .i64 0) := by rw [Lib.cell_of_heap hgP7]; rfl
          have z0 : w7.frozen? ⟨P, 0, none⟩ = false := Lib.frozen_of_heap hgP7 0
          have e1 : w7.cell? ⟨P, 1, none⟩ = some (.int .i64 0) := by rw [Lib.cell_of_heap hgP7]; rfl
          have z1 : w7.frozen? ⟨P, 1, none⟩ = false := Lib.frozen_of_heap hgP7 1
          have e2 : w7.cell? ⟨P, 2, none⟩ = some (.float .f64 0) := by rw [Lib.cell_of_heap hgP7]; rfl
          have z2 : w7.frozen? ⟨P, 2, none⟩ = false := Lib.frozen_of_heap hgP7 2
          have e3 : w7.cell? ⟨P, 3, none⟩ = some (.string ⟨#[]⟩) := by rw [Lib.cell_of_heap hgP7]; rfl
          have z3 : w7.frozen? ⟨P, 3, none⟩ = false := Lib.frozen_of_heap hgP7 3
          have e4 : w7.cell? ⟨P, 4, none⟩ = some (.slice none 0 0) := by rw [Lib.cell_of_heap hgP7]; rfl
          have z4 : w7.frozen? ⟨P, 4, none⟩ = false := Lib.frozen_of_heap hgP7 4
          have e5 : w7.cell? ⟨P, 5, none⟩ = some (.slice none 0 0) := by rw [Lib.cell_of_heap hgP7]; rfl
          have z5 : w7.frozen? ⟨P, 5, none⟩ = false := Lib.frozen_of_heap hgP7 5
          have hgF : (((((((w7).setCell ⟨P, 0, none⟩ (.int .i64 v.kind)).setCell ⟨P, 1, none⟩ (.int .i64 v.num)).setCell ⟨P, 2, none⟩ (.float .f64 v.flt)).setCell ⟨P, 3, none⟩ (.string ⟨v.str.toArray⟩)).setCell ⟨P, 4, none⟩ (.slice na nl nc)).setCell ⟨P, 5, none⟩ (.slice ia il ic)).heap[P]? = some (.cells #[.int .i64 v.kind, .int .i64 v.num, .float .f64 v.flt, .string ⟨v.str.toArray⟩, .slice na nl nc, .slice ia il ic] 57 (0, 0)) := heap_setN (heap_setN (heap_setN (heap_setN (heap_setN (heap_setN hgP7 0 _) 1 _) 2 _) 3 _) 4 _) 5 _
          have FF := ((((((Fr.refl [P] w7).setCell ⟨P, 0, none⟩ (by simp) (.int .i64 v.kind)).setCell ⟨P, 1, none⟩ (by simp) (.int .i64 v.num)).setCell ⟨P, 2, none⟩ (by simp) (.float .f64 v.flt)).setCell ⟨P, 3, none⟩ (by simp) (.string ⟨v.str.toArray⟩)).setCell ⟨P, 4, none⟩ (by simp) (.slice na nl nc)).setCell ⟨P, 5, none⟩ (by simp) (.slice ia il ic)
          go_wp2_with fail
          clear e0 z0 e1 z1 e2 z2 e3 z3 e4 z4 e5 z5
          generalize ((((((w7).setCell ⟨P, 0, none⟩ (.int .i64 v.kind)).setCell ⟨P, 1, none⟩ (.int .i64 v.num)).setCell ⟨P, 2, none⟩ (.float .f64 v.flt)).setCell ⟨P, 3, none⟩ (.string ⟨v.str.toArray⟩)).setCell ⟨P, 4, none⟩ (.slice na nl nc)).setCell ⟨P, 5, none⟩ (.slice ia il ic) = X at *
          have y0 : X.cell? ⟨P, 0, none⟩ = some (.int .i64 v.kind) := by rw [Lib.cell_of_heap hgF]; rfl
          have y1 : X.cell? ⟨P, 1, none⟩ = some (.int .i64 v.num) := by rw [Lib.cell_of_heap hgF]; rfl
          have y2 : X.cell? ⟨P, 2, none⟩ = some (.float .f64 v.flt) := by rw [Lib.cell_of_heap hgF]; rfl
          have y3 : X.cell? ⟨P, 3, none⟩ = some (.string ⟨v.str.toArray⟩) := by rw [Lib.cell_of_heap hgF]; rfl
          have y4 : X.cell? ⟨P, 4, none⟩ = some (.slice na nl nc) := by rw [Lib.cell_of_heap hgF]; rfl
          have y5 : X.cell? ⟨P, 5, none⟩ = some (.slice ia il ic) := by rw [Lib.cell_of_heap hgF]; rfl
          have hrX := RdAt.kept hr6 FF (by simp; omega)
          have hff := ((A7.mono (m := [b, P]) (by simp)).trans (FF.mono (m := [b, P]) (by simp))).fewer (by omega)
          refine bodyPost_ret (v := .agg #[.int .i64 v.kind, .int .i64 v.num, .float .f64 v.flt, .string ⟨v.str.toArray⟩, .slice na nl nc, .slice ia il ic]) (by simp [results, Tryz.results33, go_sem, y0, y1, y2, y3, y4, y5]) rfl ?_
          exact ⟨v, _, _, rfl, V7.kept FF.size (fun g hg hl => ⟨by have h9 : P < g := hg; omega, FF.block g hl (by have h9 : P < g := hg; simp; omega)⟩), hrX, hff, by rw [HR.out]; exact ⟨rfl, rfl⟩⟩
end Go.Proofs.YtnaamiecljinnaaGreat
