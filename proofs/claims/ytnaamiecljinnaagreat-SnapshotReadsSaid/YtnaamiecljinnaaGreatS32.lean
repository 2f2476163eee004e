/-
  Gk in one text.
-/
import Derived.Below
import Derived.BigQuiet
import Derived.BigRegion
import Derived.Deep.AppendLies
import Derived.Deep.Cut
import Derived.Deep.CutBlock
import Derived.Deep.DeepCutAuto
import Derived.Deep.QuietTactic
import Derived.Deep.RegionHeld3
import Derived.Deep.RegionLaw
import Derived.Deep.RegionWith
import Derived.Defers
import Derived.Handy
import Derived.IntWalk
import Derived.Laws.Bits64b
import Derived.Laws.FloatBits
import Derived.Lib.AtoiAll
import Derived.Lib.Builder
import Derived.Lib.Bytes
import Derived.Lib.ConvBytes
import Derived.Lib.FrozenHead2
import Derived.Lib.Hide
import Derived.Lib.IndexMore
import Derived.Lib.ItoaNum
import Derived.Lib.MinMax
import Derived.Lib.OthersKept
import Derived.Lib.ParseIntB
import Derived.Lib.UnsafeStr
import Derived.LoopTactic
import Derived.OneCell
import Derived.OwnWalk
import Derived.Recover
import Derived.RegionTactic
import Derived.Shelf.Abstract
import Derived.StillTailTactics
import Derived.Tactics
import Derived.Tactics2
import Derived.Test.YtnaamiecljinnaaGreatChecked
import Derived.WalkKit
import Derived.WalkLawsBesides
import Derived.WalkSpells
import Ieee.Arith
import Derived.Test.YtnaamiecljinnaaGreatS00
import Derived.Test.YtnaamiecljinnaaGreatS02
import Derived.Test.YtnaamiecljinnaaGreatS03
import Derived.Test.YtnaamiecljinnaaGreatS08
import Derived.Test.YtnaamiecljinnaaGreatS10
import Derived.Test.YtnaamiecljinnaaGreatS11
import Derived.Test.YtnaamiecljinnaaGreatS12
import Derived.Test.YtnaamiecljinnaaGreatS14
import Derived.Test.YtnaamiecljinnaaGreatS18
import Derived.Test.YtnaamiecljinnaaGreatS19
import Derived.Test.YtnaamiecljinnaaGreatS23
import Derived.Test.YtnaamiecljinnaaGreatS25
import Derived.Test.YtnaamiecljinnaaGreatS26
import Derived.Test.YtnaamiecljinnaaGreatS27
import Derived.Test.YtnaamiecljinnaaGreatS30
import Derived.Test.YtnaamiecljinnaaGreatS31
namespace Go.Proofs.YtnaamiecljinnaaGreat
open Go.RowKit
/-- the blocks of Read: its result's (H), the Reader's (b), the In's (I), the part's (P) -/
def RdW (H b I P : Nat) (s : ByteArray) (st : Option (List UInt8)) (w0 : World) (pc : Array Value) (u : World) : Prop :=
  (H < b ∧ b < I ∧ I < P) ∧ RdAt b s st 0 u ∧ u.heap[I]? = some (.cells #[.pointer (some ⟨b, 0, none⟩)] 93 (0, 0)) ∧ u.heap[P]? = some (.cells pc 28 (0, 0)) ∧ u.heap[H]? = some (.cells #[.int .i64 0, .int .i64 0, .slice none 0 0, .slice none 0 0, .slice none 0 0, .slice none 0 0, .slice none 0 0] 28 (0, 0)) ∧ Below H w0 u
section
variable {H b I P : Nat} {s : ByteArray} {st st' : Option (List UInt8)} {w0 u u' : World} {pc pc' : Array Value}
theorem RdW.rd (h : RdW H b I P s st w0 pc u) : RdAt b s st 0 u := h.2.1
theorem RdW.hP (h : RdW H b I P s st w0 pc u) : u.heap[P]? = some (.cells pc 28 (0, 0)) := h.2.2.2.1
theorem RdW.hR (h : RdW H b I P s st w0 pc u) : u.heap[H]? = some (.cells #[.int .i64 0, .int .i64 0, .slice none 0 0, .slice none 0 0, .slice none 0 0, .slice none 0 0, .slice none 0 0] 28 (0, 0)) := h.2.2.2.2.1
theorem RdW.below (h : RdW H b I P s st w0 pc u) : Below H w0 u := h.2.2.2.2.2
theorem RdW.bH (h : RdW H b I P s st w0 pc u) : H < b := h.1.1
theorem RdW.bP (h : RdW H b I P s st w0 pc u) : b < P := Nat.lt_trans h.1.2.1 h.1.2.2
theorem RdW.ltP (h : RdW H b I P s st w0 pc u) : P < u.heap.size := lt_of_block h.hP
theorem RdW.cI (h : RdW H b I P s st w0 pc u) : u.cell? ⟨I, 0, none⟩ = some (.pointer (some ⟨b, 0, none⟩)) := by rw [Lib.cell_of_heap h.2.2.1]; rfl
theorem RdW.far (h : RdW H b I P s st w0 pc u) {g : Nat} (hg : P < g) : g ∉ [b] := by
  have := h.bP
  simp; omega
theorem RdW.call (h : RdW H b I P s st w0 pc u) (hr : RdAt b s st' 0 u') (hf : Fr [b] u u') : RdW H b I P s st' w0 pc u' := by
  obtain ⟨h0, h1, h2, h3, h4, h5⟩ := h
  refine ⟨h0, hr, hf.at h2 (by simp; omega), hf.at h3 (by simp; omega), hf.at h4 (by simp; omega), h5.trans (hf.below (Nat.le_of_lt (lt_of_block h4)) (by simp; omega))⟩
theorem RdW.put {B : Nat} (h : RdW H b I P s st w0 pc u) (hf : Fr [B] u u') (hB : P < B) : RdW H b I P s st w0 pc u' := by
  obtain ⟨h0, h1, h2, h3, h4, h5⟩ := h
  refine ⟨h0, h1.kept hf (by simp; omega), hf.at h2 (by simp; omega), hf.at h3 (by simp; omega), hf.at h4 (by simp; omega), h5.trans (hf.below (Nat.le_of_lt (lt_of_block h4)) (by simp; omega))⟩
theorem RdW.alloc (h : RdW H b I P s st w0 pc u) (o : Obj) : RdW H b I P s st w0 pc (u.alloc o) := by
  obtain ⟨h0, h1, h2, h3, h4, h5⟩ := h
  exact ⟨h0, h1.below ((Below.refl _ _).alloc (Nat.le_refl _) o), (Lib.alloc_old u o _ (lt_of_block h2)).trans h2, (Lib.alloc_old u o _ (lt_of_block h3)).trans h3, (Lib.alloc_old u o _ (lt_of_block h4)).trans h4, h5.alloc (Nat.le_of_lt (lt_of_block h4)) o⟩
theorem RdW.turn (h : RdW H b I P s st w0 pc u) (hk : ∀ k, k < P → k < u.heap.size → u'.heap[k]? = u.heap[k]?) (hP : u'.heap[P]? = some (.cells pc' 28 (0, 0)))
    (e1 : u'.os = u.os) (e2 : u'.tape = u.tape) (e3 : u'.output = u.output) (e4 : u.heap.size ≤ u'.heap.size) : RdW H b I P s st w0 pc' u' := by
  obtain ⟨h0, h1, h2, h3, h4, h5⟩ := h
  refine ⟨h0, h1.same (hk b (by omega) (h1.lt)), (hk I (by omega) (lt_of_block h2)).trans h2, hP, (hk H (by omega) (lt_of_block h4)).trans h4, ?_⟩
  exact ⟨e1.trans h5.os, e2.trans h5.tape, e3.trans h5.output, Nat.le_trans h5.size e4, fun k hk' => (hk k (by omega) (by have := lt_of_block h4; omega)).trans (h5.block k hk')⟩
end
theorem ext4 (s : ByteArray) : (s.extract 0 4).toList = s.data.toList.take 4 := by
  rw [ByteArray.toList_eq]
  simp only [ByteArray.data_extract, Array.toList_extract, List.extract_eq_take_drop]
  simp
theorem partR_two {l : List UInt8} {n0 n1 : Nat} {s0 s1 : Option (List UInt8)} (hm : l.take 4 = magicB) (h0 : IsO ((some (l.drop 4)).bind numR) n0 s0) (h1 : IsO (s0.bind numR) n1 s1) :
    partR l = s1.bind fun q => (listR heldR q).bind fun y => K0 (n0 : Int) (n1 : Int) y.1 y.2 := by
  rw [partR_eq, if_pos hm]
  have h0 : IsO (numR (l.drop 4)) n0 s0 := h0
  cases e0 : numR (l.drop 4) with
  | none =>
    rw [e0] at h0
    have h0 : s0 = none := h0
    subst h0
    have h1 : s1 = none := h1
    subst h1
    rfl
  | some a =>
    rw [e0] at h0
    obtain ⟨rfl, rfl⟩ := h0
    have h1 : IsO (numR a.2) n1 s1 := h1
    cases e1 : numR a.2 with
    | none =>
      rw [e1] at h1
      have h1 : s1 = none := h1
      subst h1
      simp [e1]
    | some c =>
      rw [e1] at h1
      obtain ⟨rfl, rfl⟩ := h1
      simp [e1]
/-- what the references' Read leaves -/
def RReadP (w : World) (r : Option PartT) (e : Ending) (w' : World) : Prop :=
  match r with
  | some p => ∃ cs, e = .returned (.tuple #[.agg cs, .bool true]) ∧ PartIn (fun g => w.heap.size ≤ g) w' 13 p cs ∧ Below w.heap.size w w'
  | none => e = .returned (.tuple #[.agg #[.int .i64 0, .int .i64 0, .slice none 0 0, .slice none 0 0, .slice none 0 0, .slice none 0 0, .slice none 0 0], .bool false]) ∧ Below w.heap.size w w'
set_option maxRecDepth 100000 in
set_option maxHeartbeats 4000000 in
theorem rread27_any (s : ByteArray) (hs : s.size ≤ 1000000) (w : World) : Calls Tryz.prog 12 #[.string s] w (RReadP w (partR s.data.toList)) := by
  have hsf : ∀ (a : Addr) (x : Nat) (m : Mode) (w : World), (store a (.float .f64 x) m).run Tryz.prog w = stored Tryz.prog w a (.float .f64 x) m := fun a x m w => run_store _ w a _ m rfl
  have hR0 : (w.alloc (.cells #[.int .i64 0, .int .i64 0, .slice none 0 0, .slice none 0 0, .slice none 0 0, .slice none 0 0, .slice none 0 0] 28)).heap[w.heap.size]? = some (.cells #[.int .i64 0, .int .i64 0, .slice none 0 0, .slice none 0 0, .slice none 0 0, .slice none 0 0, .slice none 0 0] 28 (0, 0)) := heap_alloc_new w _
  have hB0 : Below w.heap.size w (w.alloc (.cells #[.int .i64 0, .int .i64 0, .slice none 0 0, .slice none 0 0, .slice none 0 0, .slice none 0 0, .slice none 0 0] 28)) := (Below.refl _ _).alloc (Nat.le_refl _) _
  have hEx : (s.extract 0 4).toList = s.data.toList.take 4 := ext4 s
  have hsl : s.data.toList.length = s.size := by simp
  generalize hW0 : w.alloc (.cells #[.int .i64 0, .int .i64 0, .slice none 0 0, .slice none 0 0, .slice none 0 0, .slice none 0 0, .slice none 0 0] 28) = W0 at *
  generalize hgh : w.heap.size = H at *
  have HH := Lib.hid hgh; clear hgh
  have HW := Lib.hid hW0; clear hW0
  by_cases h4 : s.size < 4
  · have t0 : decide ((s.size : Int) < 4) = true := by simp; omega
    have HX := Lib.hid (show partR s.data.toList = none from by
      rw [partR_eq, if_neg]
      intro h; have := congrArg List.length h; rw [List.length_take, hsl] at this; simp [magicB] at this; omega)
    clear hEx hsl
    go_enter Tryz.func12, Tryz.ntmps12
    go_upto_region 1 with (fail)
    rw [HW.out, HH.out]
    have y0 : W0.cell? ⟨H, 0, none⟩ = some (.int .i64 0) := by rw [Lib.cell_of_heap hR0]; rfl
    have z0 : W0.frozen? ⟨H, 0, none⟩ = false := Lib.frozen_of_heap hR0 0
    have y1 : W0.cell? ⟨H, 1, none⟩ = some (.int .i64 0) := by rw [Lib.cell_of_heap hR0]; rfl
    have z1 : W0.frozen? ⟨H, 1, none⟩ = false := Lib.frozen_of_heap hR0 1
    have y2 : W0.cell? ⟨H, 2, none⟩ = some (.slice none 0 0) := by rw [Lib.cell_of_heap hR0]; rfl
    have z2 : W0.frozen? ⟨H, 2, none⟩ = false := Lib.frozen_of_heap hR0 2
    have y3 : W0.cell? ⟨H, 3, none⟩ = some (.slice none 0 0) := by rw [Lib.cell_of_heap hR0]; rfl
    have z3 : W0.frozen? ⟨H, 3, none⟩ = false := Lib.frozen_of_heap hR0 3
    have y4 : W0.cell? ⟨H, 4, none⟩ = some (.slice none 0 0) := by rw [Lib.cell_of_heap hR0]; rfl
    have z4 : W0.frozen? ⟨H, 4, none⟩ = false := Lib.frozen_of_heap hR0 4
    have y5 : W0.cell? ⟨H, 5, none⟩ = some (.slice none 0 0) := by rw [Lib.cell_of_heap hR0]; rfl
    have z5 : W0.frozen? ⟨H, 5, none⟩ = false := Lib.frozen_of_heap hR0 5
    have y6 : W0.cell? ⟨H, 6, none⟩ = some (.slice none 0 0) := by rw [Lib.cell_of_heap hR0]; rfl
    have z6 : W0.frozen? ⟨H, 6, none⟩ = false := Lib.frozen_of_heap hR0 6
    have hgF : ((((((((W0).setCell ⟨H, 0, none⟩ (.int .i64 0)).setCell ⟨H, 1, none⟩ (.int .i64 0)).setCell ⟨H, 2, none⟩ (.slice none 0 0)).setCell ⟨H, 3, none⟩ (.slice none 0 0)).setCell ⟨H, 4, none⟩ (.slice none 0 0)).setCell ⟨H, 5, none⟩ (.slice none 0 0)).setCell ⟨H, 6, none⟩ (.slice none 0 0)).heap[H]? = some (.cells #[.int .i64 0, .int .i64 0, .slice none 0 0, .slice none 0 0, .slice none 0 0, .slice none 0 0, .slice none 0 0] 28 (0, 0)) := heap_setN (heap_setN (heap_setN (heap_setN (heap_setN (heap_setN (heap_setN (hR0) 0 _) 1 _) 2 _) 3 _) 4 _) 5 _) 6 _
    have FF := (((((((Fr.refl [H] W0).setCell ⟨H, 0, none⟩ (by simp) (.int .i64 0)).setCell ⟨H, 1, none⟩ (by simp) (.int .i64 0)).setCell ⟨H, 2, none⟩ (by simp) (.slice none 0 0)).setCell ⟨H, 3, none⟩ (by simp) (.slice none 0 0)).setCell ⟨H, 4, none⟩ (by simp) (.slice none 0 0)).setCell ⟨H, 5, none⟩ (by simp) (.slice none 0 0)).setCell ⟨H, 6, none⟩ (by simp) (.slice none 0 0)
    go_wp2_with fail
    clear y0 z0 y1 z1 y2 z2 y3 z3 y4 z4 y5 z5 y6 z6
    generalize (((((((W0).setCell ⟨H, 0, none⟩ (.int .i64 0)).setCell ⟨H, 1, none⟩ (.int .i64 0)).setCell ⟨H, 2, none⟩ (.slice none 0 0)).setCell ⟨H, 3, none⟩ (.slice none 0 0)).setCell ⟨H, 4, none⟩ (.slice none 0 0)).setCell ⟨H, 5, none⟩ (.slice none 0 0)).setCell ⟨H, 6, none⟩ (.slice none 0 0) = X at *
    have y0 : X.cell? ⟨H, 0, none⟩ = some (.int .i64 0) := by rw [Lib.cell_of_heap hgF]; rfl
    have y1 : X.cell? ⟨H, 1, none⟩ = some (.int .i64 0) := by rw [Lib.cell_of_heap hgF]; rfl
    have y2 : X.cell? ⟨H, 2, none⟩ = some (.slice none 0 0) := by rw [Lib.cell_of_heap hgF]; rfl
    have y3 : X.cell? ⟨H, 3, none⟩ = some (.slice none 0 0) := by rw [Lib.cell_of_heap hgF]; rfl
    have y4 : X.cell? ⟨H, 4, none⟩ = some (.slice none 0 0) := by rw [Lib.cell_of_heap hgF]; rfl
    have y5 : X.cell? ⟨H, 5, none⟩ = some (.slice none 0 0) := by rw [Lib.cell_of_heap hgF]; rfl
    have y6 : X.cell? ⟨H, 6, none⟩ = some (.slice none 0 0) := by rw [Lib.cell_of_heap hgF]; rfl
    refine bodyPost_ret (v := .tuple #[.agg #[.int .i64 0, .int .i64 0, .slice none 0 0, .slice none 0 0, .slice none 0 0, .slice none 0 0, .slice none 0 0], .bool false]) (by simp [results, Tryz.results12, go_sem, y0, y1, y2, y3, y4, y5, y6]) rfl ?_
    rw [HX.out]
    exact ⟨rfl, by rw [HH.out]; exact (hB0).trans (FF.below (by have := lt_of_block hR0; omega) (by simp))⟩
  have t0 : decide ((s.size : Int) < 4) = false := by simp; omega
  have b4 : (4 : Int) ≤ (s.size : Int) := by omega
  by_cases hm : s.data.toList.take 4 = magicB
  case neg =>
    have t1 : ((s.extract 0 4).toList == [83, 78, 80, 49]) = false := by rw [hEx]; exact beq_eq_false_iff_ne.2 hm
    have HX := Lib.hid (show partR s.data.toList = none from by rw [partR_eq, if_neg hm])
    clear hEx hsl hm
    go_enter Tryz.func12, Tryz.ntmps12
    go_upto_region 1 with (fail)
    rw [HW.out, HH.out]
    have y0 : W0.cell? ⟨H, 0, none⟩ = some (.int .i64 0) := by rw [Lib.cell_of_heap hR0]; rfl
    have z0 : W0.frozen? ⟨H, 0, none⟩ = false := Lib.frozen_of_heap hR0 0
    have y1 : W0.cell? ⟨H, 1, none⟩ = some (.int .i64 0) := by rw [Lib.cell_of_heap hR0]; rfl
    have z1 : W0.frozen? ⟨H, 1, none⟩ = false := Lib.frozen_of_heap hR0 1
    have y2 : W0.cell? ⟨H, 2, none⟩ = some (.slice none 0 0) := by rw [Lib.cell_of_heap hR0]; rfl
    have z2 : W0.frozen? ⟨H, 2, none⟩ = false := Lib.frozen_of_heap hR0 2
    have y3 : W0.cell? ⟨H, 3, none⟩ = some (.slice none 0 0) := by rw [Lib.cell_of_heap hR0]; rfl
    have z3 : W0.frozen? ⟨H, 3, none⟩ = false := Lib.frozen_of_heap hR0 3
    have y4 : W0.cell? ⟨H, 4, none⟩ = some (.slice none 0 0) := by rw [Lib.cell_of_heap hR0]; rfl
    have z4 : W0.frozen? ⟨H, 4, none⟩ = false := Lib.frozen_of_heap hR0 4
    have y5 : W0.cell? ⟨H, 5, none⟩ = some (.slice none 0 0) := by rw [Lib.cell_of_heap hR0]; rfl
    have z5 : W0.frozen? ⟨H, 5, none⟩ = false := Lib.frozen_of_heap hR0 5
    have y6 : W0.cell? ⟨H, 6, none⟩ = some (.slice none 0 0) := by rw [Lib.cell_of_heap hR0]; rfl
    have z6 : W0.frozen? ⟨H, 6, none⟩ = false := Lib.frozen_of_heap hR0 6
    have hgF : ((((((((W0).setCell ⟨H, 0, none⟩ (.int .i64 0)).setCell ⟨H, 1, none⟩ (.int .i64 0)).setCell ⟨H, 2, none⟩ (.slice none 0 0)).setCell ⟨H, 3, none⟩ (.slice none 0 0)).setCell ⟨H, 4, none⟩ (.slice none 0 0)).setCell ⟨H, 5, none⟩ (.slice none 0 0)).setCell ⟨H, 6, none⟩ (.slice none 0 0)).heap[H]? = some (.cells #[.int .i64 0, .int .i64 0, .slice none 0 0, .slice none 0 0, .slice none 0 0, .slice none 0 0, .slice none 0 0] 28 (0, 0)) := heap_setN (heap_setN (heap_setN (heap_setN (heap_setN (heap_setN (heap_setN (hR0) 0 _) 1 _) 2 _) 3 _) 4 _) 5 _) 6 _
    have FF := (((((((Fr.refl [H] W0).setCell ⟨H, 0, none⟩ (by simp) (.int .i64 0)).setCell ⟨H, 1, none⟩ (by simp) (.int .i64 0)).setCell ⟨H, 2, none⟩ (by simp) (.slice none 0 0)).setCell ⟨H, 3, none⟩ (by simp) (.slice none 0 0)).setCell ⟨H, 4, none⟩ (by simp) (.slice none 0 0)).setCell ⟨H, 5, none⟩ (by simp) (.slice none 0 0)).setCell ⟨H, 6, none⟩ (by simp) (.slice none 0 0)
    go_wp2_with fail
    clear y0 z0 y1 z1 y2 z2 y3 z3 y4 z4 y5 z5 y6 z6
    generalize (((((((W0).setCell ⟨H, 0, none⟩ (.int .i64 0)).setCell ⟨H, 1, none⟩ (.int .i64 0)).setCell ⟨H, 2, none⟩ (.slice none 0 0)).setCell ⟨H, 3, none⟩ (.slice none 0 0)).setCell ⟨H, 4, none⟩ (.slice none 0 0)).setCell ⟨H, 5, none⟩ (.slice none 0 0)).setCell ⟨H, 6, none⟩ (.slice none 0 0) = X at *
    have y0 : X.cell? ⟨H, 0, none⟩ = some (.int .i64 0) := by rw [Lib.cell_of_heap hgF]; rfl
    have y1 : X.cell? ⟨H, 1, none⟩ = some (.int .i64 0) := by rw [Lib.cell_of_heap hgF]; rfl
    have y2 : X.cell? ⟨H, 2, none⟩ = some (.slice none 0 0) := by rw [Lib.cell_of_heap hgF]; rfl
    have y3 : X.cell? ⟨H, 3, none⟩ = some (.slice none 0 0) := by rw [Lib.cell_of_heap hgF]; rfl
    have y4 : X.cell? ⟨H, 4, none⟩ = some (.slice none 0 0) := by rw [Lib.cell_of_heap hgF]; rfl
    have y5 : X.cell? ⟨H, 5, none⟩ = some (.slice none 0 0) := by rw [Lib.cell_of_heap hgF]; rfl
    have y6 : X.cell? ⟨H, 6, none⟩ = some (.slice none 0 0) := by rw [Lib.cell_of_heap hgF]; rfl
    refine bodyPost_ret (v := .tuple #[.agg #[.int .i64 0, .int .i64 0, .slice none 0 0, .slice none 0 0, .slice none 0 0, .slice none 0 0, .slice none 0 0], .bool false]) (by simp [results, Tryz.results12, go_sem, y0, y1, y2, y3, y4, y5, y6]) rfl ?_
    rw [HX.out]
    exact ⟨rfl, by rw [HH.out]; exact (hB0).trans (FF.below (by have := lt_of_block hR0; omega) (by simp))⟩
  have t1 : ((s.extract 0 4).toList == [83, 78, 80, 49]) = true := by rw [hEx, hm]; rfl
  have HBg := Lib.hid (fun w => rbegin5_any s 4 (by omega) w)
  have HR := Lib.hid (fun n0 n1 s0 s1 h0 h1 => partR_two (n0 := n0) (n1 := n1) (s0 := s0) (s1 := s1) hm h0 h1)
  generalize partR s.data.toList = R at *
  clear hEx hsl hm h4
  go_enter Tryz.func12, Tryz.ntmps12
  go_upto_region 1 with (fail)
  rw [HW.out, HH.out]
  clear HW
  go_wp2_with fail
  refine (HBg.out _).mono ?_; rintro e w1 ⟨rfl, hr1, hb1⟩
  clear t0 t1 b4 HBg
  go_upto_region 4 with (fail)
  have hHb : H < W0.heap.size := lt_of_block hR0
  have hR1 := (hb1.block _ hHb).trans hR0
  have hB1 := hB0.trans (hb1.mono (by omega))
  generalize W0.heap.size = b at *
  have hbl1 := hr1.lt
  have hI2 : (w1.alloc (.cells #[.pointer (some ⟨b, 0, none⟩)] 93)).heap[w1.heap.size]? = some (.cells #[.pointer (some ⟨b, 0, none⟩)] 93 (0, 0)) := heap_alloc_new w1 _
  have hr2 := hr1.below ((Below.refl _ _).alloc (Nat.le_refl _) (.cells #[.pointer (some ⟨b, 0, none⟩)] 93))
  have hR2 := (Lib.alloc_old w1 (.cells #[.pointer (some ⟨b, 0, none⟩)] 93) _ (lt_of_block hR1)).trans hR1
  have hB2 := hB1.alloc (Nat.le_of_lt (lt_of_block hR1)) (.cells #[.pointer (some ⟨b, 0, none⟩)] 93)
  clear hr1 hR1 hB1 hb1 hB0 hR0
  generalize w1.alloc (.cells #[.pointer (some ⟨b, 0, none⟩)] 93) = w2 at *
  generalize w1.heap.size = I at *
  have HOk := Lib.hid (fun st u h => iok_any b 0 s st u h)
  have HNu := Lib.hid (fun st u h => inumN b 0 s hs st u h)
  have HMa := Lib.hid (fun st u h => imanyN b 0 s hs st u h)
  have HIn := Lib.hid (fun st u h => iinst_any b 0 s hs st u h)
  have HSo := Lib.hid (fun st u h => isome_any b 0 s hs st u h)
  have HVa := Lib.hid (fun st u h => ival_any b 0 s hs st u h)
  have x0 : w2.cell? ⟨I, 0, none⟩ = some (.pointer (some ⟨b, 0, none⟩)) := by rw [Lib.cell_of_heap hI2]; rfl
  go_wp2_with fail
  refine (HNu.out _ _ hr2).mono ?_; rintro e w3 ⟨n0, st0, rfl, hn0, G, E, iso0⟩
  have hI3 := E.at hI2 (by simp; omega)
  have hR3 := E.at hR2 (by simp; omega)
  have hB3 := hB2.trans (E.below (Nat.le_of_lt (lt_of_block hR2)) (by simp; omega))
  clear x0 hr2 hI2 hR2 hB2
  go_upto_region 5 with (fail)
  have hP4 : (w3.alloc (.cells #[.int .i64 (n0 : Int), .int .i64 0, .slice none 0 0, .slice none 0 0, .slice none 0 0, .slice none 0 0, .slice none 0 0] 28)).heap[w3.heap.size]? = some (.cells #[.int .i64 (n0 : Int), .int .i64 0, .slice none 0 0, .slice none 0 0, .slice none 0 0, .slice none 0 0, .slice none 0 0] 28 (0, 0)) := heap_alloc_new w3 _
  have hr4 : RdW H b I w3.heap.size s st0 w #[.int .i64 (n0 : Int), .int .i64 0, .slice none 0 0, .slice none 0 0, .slice none 0 0, .slice none 0 0, .slice none 0 0] (w3.alloc (.cells #[.int .i64 (n0 : Int), .int .i64 0, .slice none 0 0, .slice none 0 0, .slice none 0 0, .slice none 0 0, .slice none 0 0] 28)) := ⟨⟨hHb, hbl1, lt_of_block hI3⟩, G.below ((Below.refl _ _).alloc (Nat.le_refl _) _), (Lib.alloc_old w3 _ _ (lt_of_block hI3)).trans hI3, hP4, (Lib.alloc_old w3 _ _ (lt_of_block hR3)).trans hR3, hB3.alloc (Nat.le_of_lt (lt_of_block hR3)) _⟩
  clear G E hI3 hR3 hB3
  generalize w3.alloc (.cells #[.int .i64 (n0 : Int), .int .i64 0, .slice none 0 0, .slice none 0 0, .slice none 0 0, .slice none 0 0, .slice none 0 0] 28) = w4 at *
  generalize w3.heap.size = P at *
  have x0 : w4.cell? ⟨I, 0, none⟩ = some (.pointer (some ⟨b, 0, none⟩)) := hr4.cI
  go_wp2_with fail
  refine (HNu.out _ _ hr4.rd).mono ?_; rintro e w5 ⟨n1, st1, rfl, hn1, G, E, iso1⟩
  have hr5 := hr4.call G E
  have hP5 := hr5.hP
  have y1 : w5.cell? ⟨P, 1, none⟩ = some (.int .i64 0) := by rw [Lib.cell_of_heap hP5]; rfl
  have z1 : w5.frozen? ⟨P, 1, none⟩ = false := Lib.frozen_of_heap hP5 1
  have HQ := Lib.hid (HR.out _ _ _ _ iso0 iso1)
  clear x0 hr4 hP4 G E iso0 iso1 HR
  go_upto_region 6 with (fail)
  have FS := (Fr.refl [P] w5).setCell ⟨P, 1, none⟩ (by simp) (.int .i64 (n1 : Int))
  have hg6 : (w5.setCell ⟨P, 1, none⟩ (.int .i64 (n1 : Int))).heap[P]? = some (.cells #[.int .i64 (n0 : Int), .int .i64 (n1 : Int), .slice none 0 0, .slice none 0 0, .slice none 0 0, .slice none 0 0, .slice none 0 0] 28 (0, 0)) := heap_setN hP5 1 _
  have hrw := hr5.turn (fun k hk hl => FS.block k hl (by simp; omega)) hg6 FS.os FS.tape FS.output FS.size
  clear y1 z1 FS hg6 hP5 hr5
  generalize w5.setCell ⟨P, 1, none⟩ (.int .i64 (n1 : Int)) = w6 at *
  generalize st1 = st at *
  have x0 : w6.cell? ⟨I, 0, none⟩ = some (.pointer (some ⟨b, 0, none⟩)) := hrw.cI
  -- list 0
  go_wp2_with fail
  refine (HMa.out _ _ hrw.rd).mono ?_; rintro e wm ⟨N, s0, rfl, hN5, G0, E0, iso0⟩
  have hrw0 := hrw.call G0 E0
  have HI0 := Lib.hid (InvR.start (K := (K0 (n0 : Int) (n1 : Int))) (N := N) HQ.out iso0)
  clear iso0 G0 HQ hrw E0 x0 
  have hWm := hrw0.ltP
  obtain ⟨Q, hQ⟩ : ∃ Q, wm.heap.size = Q + 1 := ⟨wm.heap.size - 1, by omega⟩
  go_upto_block 0 with (fail)
  go_cut [] (fun wx => ∃ its pa pl pc st, RdW H b I P s st w #[.int .i64 (n0 : Int), .int .i64 (n1 : Int), .slice pa pl pc, .slice none 0 0, .slice none 0 0, .slice none 0 0, .slice none 0 0] wx ∧ Fr [b, P] wm wx ∧ SlIn (fun g => P < g) wx 13 11 5 1 (.slice pa pl pc) its ∧ R = st.bind ((K0 (n0 : Int) (n1 : Int)) its))
  case first =>
    go_wp2_with fail
    go_loopw [7] (fun iv wr => ∃ (i : Nat) (its : List It) (pi : Value) (st : Option (List UInt8)), i ≤ N ∧ iv = .int .i64 (i : Int) ∧ its.length = i ∧ RdW H b I P s st w #[.int .i64 (n0 : Int), .int .i64 (n1 : Int), pi, .slice none 0 0, .slice none 0 0, .slice none 0 0, .slice none 0 0] wr ∧ Fr [b, P] wm wr ∧ RowIt Q 13 5 1 11 59 its pi wr ∧ InvR R heldR (N - i) (K0 (n0 : Int) (n1 : Int)) its st) (fun iv _ => N - (intOf iv).toNat)
    case atStart => exact ⟨0, [], .slice none 0 0, s0, by omega, rfl, rfl, hrw0, Fr.refl _ _, RowIt.nil _ _ _ _ _ _ _, HI0.out⟩
    case round =>
      clear HI0
      obtain ⟨i, its, pi, st, hi, rfl, hil, hrw, Ar, hrow, hE⟩ := hrel
      obtain ⟨pa, pl, pc, rfl⟩ : ∃ a c d, pi = .slice a c d := by
        obtain ⟨xs, h1, _⟩ := hrow
        rcases h1.2 with ⟨h, _⟩ | ⟨g, cap, cur, h, _⟩
        · exact ⟨_, _, _, h⟩
        · exact ⟨_, _, _, h⟩
      have hbQ : b ≤ Q := by have := hrw0.bP; omega
      have HIL := Lib.hid hil
      have HE := Lib.hid hE
      clear hil hE
      by_cases hlt : i < N
      case neg =>
        have t7 : decide ((i : Int) < (N : Int)) = false := by simp; omega
        go_wp2_with fail
        go_meet
        case rel => exact ⟨its, pa, pl, pc, st, hrw, Ar, (hrow.done (by rw [HIL.out]; omega)).kept (Nat.le_refl _) (T := fun g => P < g) (fun g hS _ => ⟨by have hS : Q < g := hS; omega, rfl⟩), InvR.done HE.out (.inl (by omega))⟩
      have t7 : decide ((i : Int) < (N : Int)) = true := by simp; omega
      have x0 : wr.cell? ⟨I, 0, none⟩ = some (.pointer (some ⟨b, 0, none⟩)) := hrw.cI
      cases st with
      | none =>
        have HO := Lib.hid (fun u h => (show Calls Tryz.prog 30 #[.agg #[.pointer (some ⟨b, 0, none⟩)]] u (fun e w' => e = .returned (.bool false) ∧ RdAt b s none 0 w' ∧ Fr [b] u w') from HOk.out none u h))
        go_wp2_with fail
        refine (HO.out _ hrw.rd).mono ?_; rintro e u ⟨rfl, h1, f1⟩
        replace hrw := hrw.call h1 f1
        replace Ar := Ar.trans (f1.mono (m := [b, P]) (by simp))
        replace hrow := hrow.far f1.grown hbQ
        go_wp2_with fail
        go_meet
        case rel => exact ⟨its, pa, pl, pc, none, hrw, Ar, (hrow.done (by rw [HIL.out]; omega)).kept (Nat.le_refl _) (T := fun g => P < g) (fun g hS _ => ⟨by have hS : Q < g := hS; omega, rfl⟩), InvR.done HE.out (.inr rfl)⟩
      | some l =>
      have HO := Lib.hid (fun u h => (show Calls Tryz.prog 30 #[.agg #[.pointer (some ⟨b, 0, none⟩)]] u (fun e w' => e = .returned (.bool true) ∧ RdAt b s (some l) 0 w' ∧ Fr [b] u w') from HOk.out (some l) u h))
      have HE2 := Lib.hid (show InvR R heldR (N - (i + 1) + 1) (K0 (n0 : Int) (n1 : Int)) its (some l) by rw [show N - (i + 1) + 1 = N - i by omega]; exact HE.out)
      clear HE
      go_wp2_with fail
      refine (HO.out _ hrw.rd).mono ?_; rintro e wc ⟨rfl, h1, f1⟩
      replace hrw := hrw.call h1 f1
      replace Ar := Ar.trans (f1.mono (m := [b, P]) (by simp))
      replace hrow := hrow.far f1.grown hbQ
      clear x0 HO h1 f1
      have F0 : Fr [b] wc wc := Fr.refl _ _
      have x0 : wc.cell? ⟨I, 0, none⟩ = some (.pointer (some ⟨b, 0, none⟩)) := hrw.cI
      go_wp2_with fail
      refine (HNu.out _ _ hrw.rd).mono ?_; rintro e u1 ⟨m1, s1, rfl, bm1, G1, E1, iso1⟩
      have R1 := hrw.call G1 E1
      clear x0
      go_upto_region 11 with (fail)
      have k1 : (u1.alloc (.cells #[.int .i64 (m1 : Int), .int .i64 0, .int .i64 0, .int .i64 0, .int .i64 0, .int .i64 0, .int .i64 0, .float .f64 0, .string ⟨#[]⟩, .slice none 0 0, .slice none 0 0] 59)).heap[u1.heap.size]? = some (.cells #[.int .i64 (m1 : Int), .int .i64 0, .int .i64 0, .int .i64 0, .int .i64 0, .int .i64 0, .int .i64 0, .float .f64 0, .string ⟨#[]⟩, .slice none 0 0, .slice none 0 0] 59 (0, 0)) := heap_alloc_new u1 _
      have r1 := R1.alloc (.cells #[.int .i64 (m1 : Int), .int .i64 0, .int .i64 0, .int .i64 0, .int .i64 0, .int .i64 0, .int .i64 0, .float .f64 0, .string ⟨#[]⟩, .slice none 0 0, .slice none 0 0] 59)
      have hWP := R1.ltP
      have F1 : Fr [b, u1.heap.size] wc (u1.alloc (.cells #[.int .i64 (m1 : Int), .int .i64 0, .int .i64 0, .int .i64 0, .int .i64 0, .int .i64 0, .int .i64 0, .float .f64 0, .string ⟨#[]⟩, .slice none 0 0, .slice none 0 0] 59)) := (E1.mono (by simp)).alloc _
      have hWw : wc.heap.size ≤ u1.heap.size := E1.size
      clear R1 E1 G1 F0
      generalize u1.alloc (.cells #[.int .i64 (m1 : Int), .int .i64 0, .int .i64 0, .int .i64 0, .int .i64 0, .int .i64 0, .int .i64 0, .float .f64 0, .string ⟨#[]⟩, .slice none 0 0, .slice none 0 0] 59) = W1 at *
      generalize u1.heap.size = B at *
      have hbB : b < B := Nat.lt_of_lt_of_le (Nat.lt_of_le_of_lt (Nat.le_of_lt r1.bP) hWP) (Nat.le_refl _)
      have x0 : W1.cell? ⟨I, 0, none⟩ = some (.pointer (some ⟨b, 0, none⟩)) := r1.cI
      go_wp2_with fail
      refine (HNu.out _ _ r1.rd).mono ?_; rintro e u2 ⟨m2, s2, rfl, bm2, G2, E2, iso2⟩
      have R2 := r1.call G2 E2
      clear x0
      have k := E2.at k1 (show B ∉ [b] by simp; omega)
      have y1 : u2.cell? ⟨B, 1, none⟩ = some (.int .i64 0) := by rw [Lib.cell_of_heap k]; rfl
      have z1 : u2.frozen? ⟨B, 1, none⟩ = false := Lib.frozen_of_heap k 1
      go_upto_region 12 with (fail)
      have k2 : ((u2).setCell ⟨B, 1, none⟩ (.int .i64 (m2 : Int))).heap[B]? = some (.cells #[.int .i64 (m1 : Int), .int .i64 (m2 : Int), .int .i64 0, .int .i64 0, .int .i64 0, .int .i64 0, .int .i64 0, .float .f64 0, .string ⟨#[]⟩, .slice none 0 0, .slice none 0 0] 59 (0, 0)) := heap_setN (k) 1 _
      have FS := (Fr.refl [B] u2).setCell ⟨B, 1, none⟩ (by simp) (.int .i64 (m2 : Int))
      have r2 := R2.put FS hWP
      have F2 := (F1.trans (E2.mono (m := [b, B]) (by simp))).trans (FS.mono (m := [b, B]) (by simp))
      clear y1 z1 R2 E2 G2 r1 F1 k1 k FS
      generalize (u2).setCell ⟨B, 1, none⟩ (.int .i64 (m2 : Int)) = W2 at *
      have x0 : W2.cell? ⟨I, 0, none⟩ = some (.pointer (some ⟨b, 0, none⟩)) := r2.cI
      go_wp2_with fail
      refine (HNu.out _ _ r2.rd).mono ?_; rintro e u3 ⟨m3, s3, rfl, bm3, G3, E3, iso3⟩
      have R3 := r2.call G3 E3
      clear x0
      have k := E3.at k2 (show B ∉ [b] by simp; omega)
      have y2 : u3.cell? ⟨B, 2, none⟩ = some (.int .i64 0) := by rw [Lib.cell_of_heap k]; rfl
      have z2 : u3.frozen? ⟨B, 2, none⟩ = false := Lib.frozen_of_heap k 2
      go_upto_region 13 with (fail)
      have k3 : ((u3).setCell ⟨B, 2, none⟩ (.int .i64 (m3 : Int))).heap[B]? = some (.cells #[.int .i64 (m1 : Int), .int .i64 (m2 : Int), .int .i64 (m3 : Int), .int .i64 0, .int .i64 0, .int .i64 0, .int .i64 0, .float .f64 0, .string ⟨#[]⟩, .slice none 0 0, .slice none 0 0] 59 (0, 0)) := heap_setN (k) 2 _
      have FS := (Fr.refl [B] u3).setCell ⟨B, 2, none⟩ (by simp) (.int .i64 (m3 : Int))
      have r3 := R3.put FS hWP
      have F3 := (F2.trans (E3.mono (m := [b, B]) (by simp))).trans (FS.mono (m := [b, B]) (by simp))
      clear y2 z2 R3 E3 G3 r2 F2 k2 k FS
      generalize (u3).setCell ⟨B, 2, none⟩ (.int .i64 (m3 : Int)) = W3 at *
      have x0 : W3.cell? ⟨I, 0, none⟩ = some (.pointer (some ⟨b, 0, none⟩)) := r3.cI
      go_wp2_with fail
      refine (HIn.out _ _ r3.rd).mono ?_; rintro e u4 ⟨m4, q4, s4, rfl, bm4, bq4, G4, E4, iso4⟩
      have R4 := r3.call G4 E4
      clear x0
      have k := E4.at k3 (show B ∉ [b] by simp; omega)
      have y3 : u4.cell? ⟨B, 3, none⟩ = some (.int .i64 0) := by rw [Lib.cell_of_heap k]; rfl
      have z3 : u4.frozen? ⟨B, 3, none⟩ = false := Lib.frozen_of_heap k 3
      have y4 : u4.cell? ⟨B, 4, none⟩ = some (.int .i64 0) := by rw [Lib.cell_of_heap k]; rfl
      have z4 : u4.frozen? ⟨B, 4, none⟩ = false := Lib.frozen_of_heap k 4
      go_upto_region 14 with (fail)
      have k4 : (((u4).setCell ⟨B, 3, none⟩ (.int .i64 (m4 : Int))).setCell ⟨B, 4, none⟩ (.int .i64 (q4 : Int))).heap[B]? = some (.cells #[.int .i64 (m1 : Int), .int .i64 (m2 : Int), .int .i64 (m3 : Int), .int .i64 (m4 : Int), .int .i64 (q4 : Int), .int .i64 0, .int .i64 0, .float .f64 0, .string ⟨#[]⟩, .slice none 0 0, .slice none 0 0] 59 (0, 0)) := heap_setN (heap_setN (k) 3 _) 4 _
      have FS := ((Fr.refl [B] u4).setCell ⟨B, 3, none⟩ (by simp) (.int .i64 (m4 : Int))).setCell ⟨B, 4, none⟩ (by simp) (.int .i64 (q4 : Int))
      have r4 := R4.put FS hWP
      have F4 := (F3.trans (E4.mono (m := [b, B]) (by simp))).trans (FS.mono (m := [b, B]) (by simp))
      clear y3 z3 y4 z4 R4 E4 G4 r3 F3 k3 k FS
      generalize ((u4).setCell ⟨B, 3, none⟩ (.int .i64 (m4 : Int))).setCell ⟨B, 4, none⟩ (.int .i64 (q4 : Int)) = W4 at *
      have x0 : W4.cell? ⟨I, 0, none⟩ = some (.pointer (some ⟨b, 0, none⟩)) := r4.cI
      go_wp2_with fail
      refine (HSo.out _ _ r4.rd).mono ?_; rintro e u5 ⟨v5, cs5, s5, rfl, V5, G5, E5, iso5⟩
      have R5 := r4.call G5 E5
      clear x0
      obtain ⟨na5, nl5, nc5, ia5, il5, ic5, rfl⟩ := V5.six
      have k := E5.at k4 (show B ∉ [b] by simp; omega)
      have y5 : u5.cell? ⟨B, 5, none⟩ = some (.int .i64 0) := by rw [Lib.cell_of_heap k]; rfl
      have z5 : u5.frozen? ⟨B, 5, none⟩ = false := Lib.frozen_of_heap k 5
      have y6 : u5.cell? ⟨B, 6, none⟩ = some (.int .i64 0) := by rw [Lib.cell_of_heap k]; rfl
      have z6 : u5.frozen? ⟨B, 6, none⟩ = false := Lib.frozen_of_heap k 6
      have y7 : u5.cell? ⟨B, 7, none⟩ = some (.float .f64 0) := by rw [Lib.cell_of_heap k]; rfl
      have z7 : u5.frozen? ⟨B, 7, none⟩ = false := Lib.frozen_of_heap k 7
      have y8 : u5.cell? ⟨B, 8, none⟩ = some (.string ⟨#[]⟩) := by rw [Lib.cell_of_heap k]; rfl
      have z8 : u5.frozen? ⟨B, 8, none⟩ = false := Lib.frozen_of_heap k 8
      have y9 : u5.cell? ⟨B, 9, none⟩ = some (.slice none 0 0) := by rw [Lib.cell_of_heap k]; rfl
      have z9 : u5.frozen? ⟨B, 9, none⟩ = false := Lib.frozen_of_heap k 9
      have y10 : u5.cell? ⟨B, 10, none⟩ = some (.slice none 0 0) := by rw [Lib.cell_of_heap k]; rfl
      have z10 : u5.frozen? ⟨B, 10, none⟩ = false := Lib.frozen_of_heap k 10
      go_upto_region 15 with (fail)
      have k5 : (((((((u5).setCell ⟨B, 5, none⟩ (.int .i64 v5.kind)).setCell ⟨B, 6, none⟩ (.int .i64 v5.num)).setCell ⟨B, 7, none⟩ (.float .f64 v5.flt)).setCell ⟨B, 8, none⟩ (.string ⟨v5.str.toArray⟩)).setCell ⟨B, 9, none⟩ (.slice na5 nl5 nc5)).setCell ⟨B, 10, none⟩ (.slice ia5 il5 ic5)).heap[B]? = some (.cells #[.int .i64 (m1 : Int), .int .i64 (m2 : Int), .int .i64 (m3 : Int), .int .i64 (m4 : Int), .int .i64 (q4 : Int), .int .i64 v5.kind, .int .i64 v5.num, .float .f64 v5.flt, .string ⟨v5.str.toArray⟩, .slice na5 nl5 nc5, .slice ia5 il5 ic5] 59 (0, 0)) := heap_setN (heap_setN (heap_setN (heap_setN (heap_setN (heap_setN (k) 5 _) 6 _) 7 _) 8 _) 9 _) 10 _
      have FS := ((((((Fr.refl [B] u5).setCell ⟨B, 5, none⟩ (by simp) (.int .i64 v5.kind)).setCell ⟨B, 6, none⟩ (by simp) (.int .i64 v5.num)).setCell ⟨B, 7, none⟩ (by simp) (.float .f64 v5.flt)).setCell ⟨B, 8, none⟩ (by simp) (.string ⟨v5.str.toArray⟩)).setCell ⟨B, 9, none⟩ (by simp) (.slice na5 nl5 nc5)).setCell ⟨B, 10, none⟩ (by simp) (.slice ia5 il5 ic5)
      have r5 := R5.put FS hWP
      have F5 := (F4.trans (E5.mono (m := [b, B]) (by simp))).trans (FS.mono (m := [b, B]) (by simp))
      have hL5 : B < W4.heap.size := lt_of_block k4
      replace V5 := V5.fr FS (fun g hg hn => by simp at hg; omega)
      replace V5 := V5.kept (T := fun g => B < g) (Nat.le_refl _) (fun g hS _ => ⟨by have hS : W4.heap.size ≤ g := hS; omega, rfl⟩)
      clear hL5
      clear y5 z5 y6 z6 y7 z7 y8 z8 y9 z9 y10 z10 R5 E5 G5 r4 F4 k4 k FS
      generalize ((((((u5).setCell ⟨B, 5, none⟩ (.int .i64 v5.kind)).setCell ⟨B, 6, none⟩ (.int .i64 v5.num)).setCell ⟨B, 7, none⟩ (.float .f64 v5.flt)).setCell ⟨B, 8, none⟩ (.string ⟨v5.str.toArray⟩)).setCell ⟨B, 9, none⟩ (.slice na5 nl5 nc5)).setCell ⟨B, 10, none⟩ (.slice ia5 il5 ic5) = W5 at *
      have HX := Lib.hid (heldR_isO iso1 iso2 iso3 iso4 iso5)
      clear iso1 iso2 iso3 iso4 iso5
      have hFb : Fr [b] wc W5 := F5.fewer hWw
      have hF2 : Fr [b] wc.drew W5 := ⟨hFb.os, hFb.tape, hFb.output, hFb.size, hFb.block⟩
      have hQw : Q < wc.heap.size := by have := Ar.size; omega
      obtain ⟨xs, hx, hrA⟩ := row_ready hrow hF2 (by have := r5.bP; omega) (.cells #[.int .i64 (m1 : Int), .int .i64 (m2 : Int), .int .i64 (m3 : Int), .int .i64 (m4 : Int), .int .i64 (q4 : Int), .int .i64 v5.kind, .int .i64 v5.num, .float .f64 v5.flt, .string ⟨v5.str.toArray⟩, .slice na5 nl5 nc5, .slice ia5 il5 ic5] 59)
      have W5v := val_ready hrow (L := B) (V5.kept (T := fun g => B ≤ g) (Nat.le_refl _) (fun g hS _ => ⟨Nat.le_of_lt hS, rfl⟩)) hWw hQw (.cells #[.int .i64 (m1 : Int), .int .i64 (m2 : Int), .int .i64 (m3 : Int), .int .i64 (m4 : Int), .int .i64 (q4 : Int), .int .i64 v5.kind, .int .i64 v5.num, .float .f64 v5.flt, .string ⟨v5.str.toArray⟩, .slice na5 nl5 nc5, .slice ia5 il5 ic5] 59)
      have hvA : ItIn (Off Q (.slice pa pl pc)) (W5.alloc (.cells #[.int .i64 (m1 : Int), .int .i64 (m2 : Int), .int .i64 (m3 : Int), .int .i64 (m4 : Int), .int .i64 (q4 : Int), .int .i64 v5.kind, .int .i64 v5.num, .float .f64 v5.flt, .string ⟨v5.str.toArray⟩, .slice na5 nl5 nc5, .slice ia5 il5 ic5] 59)) 13 5 1 ([(m1 : Int), (m2 : Int), (m3 : Int), (m4 : Int), (q4 : Int)], [v5]) #[.int .i64 (m1 : Int), .int .i64 (m2 : Int), .int .i64 (m3 : Int), .int .i64 (m4 : Int), .int .i64 (q4 : Int), .int .i64 v5.kind, .int .i64 v5.num, .float .f64 v5.flt, .string ⟨v5.str.toArray⟩, .slice na5 nl5 nc5, .slice ia5 il5 ic5] := ⟨rfl, rfl, [#[.int .i64 v5.kind, .int .i64 v5.num, .float .f64 v5.flt, .string ⟨v5.str.toArray⟩, .slice na5 nl5 nc5, .slice ia5 il5 ic5]], rfl, fun i hi => by match i, hi with | 0, _ => exact W5v, rfl⟩
      have hgP := r5.hP
      have cp : W5.cell? ⟨P, 2, none⟩ = some (.slice pa pl pc) := by rw [Lib.cell_of_heap hgP]; rfl
      have cp2 := (World.cell?_alloc_some W5 _ (.cells #[.int .i64 (m1 : Int), .int .i64 (m2 : Int), .int .i64 (m3 : Int), .int .i64 (m4 : Int), .int .i64 (q4 : Int), .int .i64 v5.kind, .int .i64 v5.num, .float .f64 v5.flt, .string ⟨v5.str.toArray⟩, .slice na5 nl5 nc5, .slice ia5 il5 ic5] 59) (by rw [cp]; rfl)).trans cp
      have y0 : W5.cell? ⟨B, 0, none⟩ = some (.int .i64 (m1 : Int)) := by rw [Lib.cell_of_heap k5]; rfl
      have y1 : W5.cell? ⟨B, 1, none⟩ = some (.int .i64 (m2 : Int)) := by rw [Lib.cell_of_heap k5]; rfl
      have y2 : W5.cell? ⟨B, 2, none⟩ = some (.int .i64 (m3 : Int)) := by rw [Lib.cell_of_heap k5]; rfl
      have y3 : W5.cell? ⟨B, 3, none⟩ = some (.int .i64 (m4 : Int)) := by rw [Lib.cell_of_heap k5]; rfl
      have y4 : W5.cell? ⟨B, 4, none⟩ = some (.int .i64 (q4 : Int)) := by rw [Lib.cell_of_heap k5]; rfl
      have y5 : W5.cell? ⟨B, 5, none⟩ = some (.int .i64 v5.kind) := by rw [Lib.cell_of_heap k5]; rfl
      have y6 : W5.cell? ⟨B, 6, none⟩ = some (.int .i64 v5.num) := by rw [Lib.cell_of_heap k5]; rfl
      have y7 : W5.cell? ⟨B, 7, none⟩ = some (.float .f64 v5.flt) := by rw [Lib.cell_of_heap k5]; rfl
      have y8 : W5.cell? ⟨B, 8, none⟩ = some (.string ⟨v5.str.toArray⟩) := by rw [Lib.cell_of_heap k5]; rfl
      have y9 : W5.cell? ⟨B, 9, none⟩ = some (.slice na5 nl5 nc5) := by rw [Lib.cell_of_heap k5]; rfl
      have y10 : W5.cell? ⟨B, 10, none⟩ = some (.slice ia5 il5 ic5) := by rw [Lib.cell_of_heap k5]; rfl
      obtain ⟨i0, hi0, hz0, hz1, hz2⟩ := Go.info_parts zero_it0
      have HII := Lib.hid hi0; have HZ0 := Lib.hid hz0; have HZ1 := Lib.hid hz1; have HZ2 := Lib.hid hz2
      clear hi0 hz0 hz1 hz2
      have hPn : P < W5.heap.size := lt_of_block hgP
      have hln : its.length ≤ 500 := by rw [HIL.out]; omega
      have hQn : Q + 1 ≤ (W5.alloc (.cells #[.int .i64 (m1 : Int), .int .i64 (m2 : Int), .int .i64 (m3 : Int), .int .i64 (m4 : Int), .int .i64 (q4 : Int), .int .i64 v5.kind, .int .i64 v5.num, .float .f64 v5.flt, .string ⟨v5.str.toArray⟩, .slice na5 nl5 nc5, .slice ia5 il5 ic5] 59)).heap.size := by have := hFb.size; simp; omega
      clear V5 W5v
      go_wp2_with (at_builtin; refine wpList_append_lies _ rfl _ _ _ (by rfl) (Q + 1) 59 i0 _ 11 128 Tryz.underlying22 HII.out HZ0.out HZ1.out HZ2.out rfl (by omega) (.slice pa pl pc) its.length xs (by rfl) hx ⟨W5.heap.size, 0, none⟩ 1 1 [.int .i64 (m1 : Int), .int .i64 (m2 : Int), .int .i64 (m3 : Int), .int .i64 (m4 : Int), .int .i64 (q4 : Int), .int .i64 v5.kind, .int .i64 v5.num, .float .f64 v5.flt, .string ⟨v5.str.toArray⟩, .slice na5 nl5 nc5, .slice ia5 il5 ic5] (by rfl) (by rfl) (World.news_of_block (cs := #[.int .i64 (m1 : Int), .int .i64 (m2 : Int), .int .i64 (m3 : Int), .int .i64 (m4 : Int), .int .i64 (q4 : Int), .int .i64 v5.kind, .int .i64 v5.num, .float .f64 v5.flt, .string ⟨v5.str.toArray⟩, .slice na5 nl5 nc5, .slice ia5 il5 ic5]) (t := 59) (fr := (0, 0)) (heap_alloc_new W5 _)) (by simp [Value.oneCell']) (by omega) (by unfold maxLen; omega) (by omega) hQn (W5.heap.size + 1) (by simp) ?_)
      intro g cap u9 hown hgrow hat hlt9
      have hrF := hrA.item hx (by rfl) hvA hown hgrow hat (by simp)
      have hnO : ∀ k, k ≤ Q → some k ≠ Value.ownBlock (.slice pa pl pc) := fun k hk e => absurd (own_lt hx e.symm).1 (Nat.not_le_of_lt (Nat.lt_succ_of_le hk))
      have hG : ∀ k, k ≤ Q → k < W5.heap.size → u9.heap[k]? = W5.heap[k]? := fun k hk hl => (hgrow.block k (Nat.lt_of_lt_of_le hl (by simp)) (hnO k hk)).trans (Lib.alloc_old W5 _ k hl)
      have hPQ : P ≤ Q := by omega
      have g9 := (hG P hPQ hPn).trans hgP
      have e9 : u9.cell? ⟨P, 2, none⟩ = some (.slice pa pl pc) := by rw [Lib.cell_of_heap g9]; rfl
      have z9 : u9.frozen? ⟨P, 2, none⟩ = false := Lib.frozen_of_heap g9 2
      have F6 := (Fr.refl [P] u9).setCell ⟨P, 2, none⟩ (by simp) (.slice (some ⟨g, 0, none⟩) (its.length + 1) cap)
      have g6 : (u9.setCell ⟨P, 2, none⟩ (.slice (some ⟨g, 0, none⟩) (its.length + 1) cap)).heap[P]? = some (.cells #[.int .i64 (n0 : Int), .int .i64 (n1 : Int), .slice (some ⟨g, 0, none⟩) (its.length + 1) cap, .slice none 0 0, .slice none 0 0, .slice none 0 0, .slice none 0 0] 28 (0, 0)) := heap_setN g9 2 _
      have A5 : Fr [b, P] wm (W5.alloc (.cells #[.int .i64 (m1 : Int), .int .i64 (m2 : Int), .int .i64 (m3 : Int), .int .i64 (m4 : Int), .int .i64 (q4 : Int), .int .i64 v5.kind, .int .i64 v5.num, .float .f64 v5.flt, .string ⟨v5.str.toArray⟩, .slice na5 nl5 nc5, .slice ia5 il5 ic5] 59)) := (Ar.trans (hFb.mono (m := [b, P]) (by simp))).alloc _
      have fg : Fr [b, P] wm u9 := ⟨hgrow.os.trans A5.os, hgrow.tape.trans A5.tape, hgrow.output.trans A5.output, Nat.le_trans A5.size hgrow.size, fun k hk hn => (hgrow.block k (Nat.lt_of_lt_of_le hk A5.size) (hnO k (by omega))).trans (A5.block k hk hn)⟩
      have hrw6 := r5.turn (u' := u9.setCell ⟨P, 2, none⟩ (.slice (some ⟨g, 0, none⟩) (its.length + 1) cap)) (fun k hk hl => (F6.block k (Nat.lt_of_lt_of_le hl (Nat.le_trans (by simp) hgrow.size)) (by simp; omega)).trans (hG k (by omega) hl)) g6 (hgrow.os.trans rfl) (hgrow.tape.trans rfl) (hgrow.output.trans rfl) (Nat.le_trans (Nat.le_trans (by simp) hgrow.size) F6.size)
      have r6 : RowIt Q 13 5 1 11 59 (its ++ [([(m1 : Int), (m2 : Int), (m3 : Int), (m4 : Int), (q4 : Int)], [v5])]) (.slice (some ⟨g, 0, none⟩) (its.length + 1) cap) (u9.setCell ⟨P, 2, none⟩ (.slice (some ⟨g, 0, none⟩) (its.length + 1) cap)) := hrF.far (b := P) F6.grown hPQ
      have fg6 := fg.trans (F6.mono (m := [b, P]) (by simp))
      have HN := Lib.hid (HE2.out.step HX.out)
      clear F6 A5 fg hrF hnO hG g9 hgrow hat hlt9 hown hrA hx hvA hFb hF2 HE2 HX r5 F5 k5 cp cp2 hgP y0 y1 y2 y3 y4 y5 y6 y7 y8 y9 y10
      go_wp2_with fail
      clear e9 z9
      generalize u9.setCell ⟨P, 2, none⟩ (.slice (some ⟨g, 0, none⟩) (its.length + 1) cap) = X9 at *
      go_roundw
      case rel => exact ⟨i + 1, its ++ [([(m1 : Int), (m2 : Int), (m3 : Int), (m4 : Int), (q4 : Int)], [v5])], _, s5, by omega, by go_num, by simp; exact HIL.out, hrw6, fg6, r6, HN.out⟩
      case measure => simp [intOf]; omega
  case rest =>
    obtain ⟨t0, pa0, pl0, pc0, st, hrw, Ar, a0, hQR⟩ := hcut
    have HQ := Lib.hid hQR
    clear hQR
    clear hrw0 HI0 hWm hQ Ar hN5 
    have x0 : wc.cell? ⟨I, 0, none⟩ = some (.pointer (some ⟨b, 0, none⟩)) := hrw.cI
    -- list 1
    go_wp2_with fail
    refine (HMa.out _ _ hrw.rd).mono ?_; rintro e wm ⟨N, s0, rfl, hN5, G0, E0, iso0⟩
    have hrw0 := hrw.call G0 E0
    have HI0 := Lib.hid (InvR.start (K := (K1 (n0 : Int) (n1 : Int) t0)) (N := N) HQ.out iso0)
    have b0 := a0.kept E0.size (T := fun g => P < g) (fun g hS hl => ⟨hS, E0.block g hl (hrw.far hS)⟩)
    clear iso0 G0 HQ hrw E0 x0  a0
    have hWm := hrw0.ltP
    obtain ⟨Q, hQ⟩ : ∃ Q, wm.heap.size = Q + 1 := ⟨wm.heap.size - 1, by omega⟩
    go_upto_block 2 with (fail)
    go_cut [] (fun wx => ∃ its pa pl pc st, RdW H b I P s st w #[.int .i64 (n0 : Int), .int .i64 (n1 : Int), .slice pa0 pl0 pc0, .slice pa pl pc, .slice none 0 0, .slice none 0 0, .slice none 0 0] wx ∧ Fr [b, P] wm wx ∧ SlIn (fun g => P < g) wx 13 4 4 0 (.slice pa pl pc) its ∧ R = st.bind ((K1 (n0 : Int) (n1 : Int) t0) its))
    case first =>
      go_wp2_with fail
      go_loopw [9] (fun iv wr => ∃ (i : Nat) (its : List It) (pi : Value) (st : Option (List UInt8)), i ≤ N ∧ iv = .int .i64 (i : Int) ∧ its.length = i ∧ RdW H b I P s st w #[.int .i64 (n0 : Int), .int .i64 (n1 : Int), .slice pa0 pl0 pc0, pi, .slice none 0 0, .slice none 0 0, .slice none 0 0] wr ∧ Fr [b, P] wm wr ∧ RowIt Q 13 4 0 4 52 its pi wr ∧ InvR R spotR (N - i) (K1 (n0 : Int) (n1 : Int) t0) its st) (fun iv _ => N - (intOf iv).toNat)
      case atStart => exact ⟨0, [], .slice none 0 0, s0, by omega, rfl, rfl, hrw0, Fr.refl _ _, RowIt.nil _ _ _ _ _ _ _, HI0.out⟩
      case round =>
        clear HI0
        obtain ⟨i, its, pi, st, hi, rfl, hil, hrw, Ar, hrow, hE⟩ := hrel
        obtain ⟨pa, pl, pc, rfl⟩ : ∃ a c d, pi = .slice a c d := by
          obtain ⟨xs, h1, _⟩ := hrow
          rcases h1.2 with ⟨h, _⟩ | ⟨g, cap, cur, h, _⟩
          · exact ⟨_, _, _, h⟩
          · exact ⟨_, _, _, h⟩
        have hbQ : b ≤ Q := by have := hrw0.bP; omega
        have HIL := Lib.hid hil
        have HE := Lib.hid hE
        clear hil hE
        by_cases hlt : i < N
        case neg =>
          have t7 : decide ((i : Int) < (N : Int)) = false := by simp; omega
          go_wp2_with fail
          go_meet
          case rel => exact ⟨its, pa, pl, pc, st, hrw, Ar, (hrow.done (by rw [HIL.out]; omega)).kept (Nat.le_refl _) (T := fun g => P < g) (fun g hS _ => ⟨by have hS : Q < g := hS; omega, rfl⟩), InvR.done HE.out (.inl (by omega))⟩
        have t7 : decide ((i : Int) < (N : Int)) = true := by simp; omega
        have x0 : wr.cell? ⟨I, 0, none⟩ = some (.pointer (some ⟨b, 0, none⟩)) := hrw.cI
        cases st with
        | none =>
          have HO := Lib.hid (fun u h => (show Calls Tryz.prog 30 #[.agg #[.pointer (some ⟨b, 0, none⟩)]] u (fun e w' => e = .returned (.bool false) ∧ RdAt b s none 0 w' ∧ Fr [b] u w') from HOk.out none u h))
          go_wp2_with fail
          refine (HO.out _ hrw.rd).mono ?_; rintro e u ⟨rfl, h1, f1⟩
          replace hrw := hrw.call h1 f1
          replace Ar := Ar.trans (f1.mono (m := [b, P]) (by simp))
          replace hrow := hrow.far f1.grown hbQ
          go_wp2_with fail
          go_meet
          case rel => exact ⟨its, pa, pl, pc, none, hrw, Ar, (hrow.done (by rw [HIL.out]; omega)).kept (Nat.le_refl _) (T := fun g => P < g) (fun g hS _ => ⟨by have hS : Q < g := hS; omega, rfl⟩), InvR.done HE.out (.inr rfl)⟩
        | some l =>
        have HO := Lib.hid (fun u h => (show Calls Tryz.prog 30 #[.agg #[.pointer (some ⟨b, 0, none⟩)]] u (fun e w' => e = .returned (.bool true) ∧ RdAt b s (some l) 0 w' ∧ Fr [b] u w') from HOk.out (some l) u h))
        have HE2 := Lib.hid (show InvR R spotR (N - (i + 1) + 1) (K1 (n0 : Int) (n1 : Int) t0) its (some l) by rw [show N - (i + 1) + 1 = N - i by omega]; exact HE.out)
        clear HE
        go_wp2_with fail
        refine (HO.out _ hrw.rd).mono ?_; rintro e wc ⟨rfl, h1, f1⟩
        replace hrw := hrw.call h1 f1
        replace Ar := Ar.trans (f1.mono (m := [b, P]) (by simp))
        replace hrow := hrow.far f1.grown hbQ
        clear x0 HO h1 f1
        have F0 : Fr [b] wc wc := Fr.refl _ _
        have x0 : wc.cell? ⟨I, 0, none⟩ = some (.pointer (some ⟨b, 0, none⟩)) := hrw.cI
        go_wp2_with fail
        refine (HIn.out _ _ hrw.rd).mono ?_; rintro e u1 ⟨m1, q1, s1, rfl, bm1, bq1, G1, E1, iso1⟩
        have R1 := hrw.call G1 E1
        clear x0
        go_upto_region 21 with (fail)
        have k1 : (u1.alloc (.cells #[.int .i64 (m1 : Int), .int .i64 (q1 : Int), .int .i64 0, .int .i64 0] 52)).heap[u1.heap.size]? = some (.cells #[.int .i64 (m1 : Int), .int .i64 (q1 : Int), .int .i64 0, .int .i64 0] 52 (0, 0)) := heap_alloc_new u1 _
        have r1 := R1.alloc (.cells #[.int .i64 (m1 : Int), .int .i64 (q1 : Int), .int .i64 0, .int .i64 0] 52)
        have hWP := R1.ltP
        have F1 : Fr [b, u1.heap.size] wc (u1.alloc (.cells #[.int .i64 (m1 : Int), .int .i64 (q1 : Int), .int .i64 0, .int .i64 0] 52)) := (E1.mono (by simp)).alloc _
        have hWw : wc.heap.size ≤ u1.heap.size := E1.size
        clear R1 E1 G1 F0
        generalize u1.alloc (.cells #[.int .i64 (m1 : Int), .int .i64 (q1 : Int), .int .i64 0, .int .i64 0] 52) = W1 at *
        generalize u1.heap.size = B at *
        have hbB : b < B := Nat.lt_of_lt_of_le (Nat.lt_of_le_of_lt (Nat.le_of_lt r1.bP) hWP) (Nat.le_refl _)
        have x0 : W1.cell? ⟨I, 0, none⟩ = some (.pointer (some ⟨b, 0, none⟩)) := r1.cI
        go_wp2_with fail
        refine (HNu.out _ _ r1.rd).mono ?_; rintro e u2 ⟨m2, s2, rfl, bm2, G2, E2, iso2⟩
        have R2 := r1.call G2 E2
        clear x0
        have k := E2.at k1 (show B ∉ [b] by simp; omega)
        have y2 : u2.cell? ⟨B, 2, none⟩ = some (.int .i64 0) := by rw [Lib.cell_of_heap k]; rfl
        have z2 : u2.frozen? ⟨B, 2, none⟩ = false := Lib.frozen_of_heap k 2
        go_upto_region 22 with (fail)
        have k2 : ((u2).setCell ⟨B, 2, none⟩ (.int .i64 (m2 : Int))).heap[B]? = some (.cells #[.int .i64 (m1 : Int), .int .i64 (q1 : Int), .int .i64 (m2 : Int), .int .i64 0] 52 (0, 0)) := heap_setN (k) 2 _
        have FS := (Fr.refl [B] u2).setCell ⟨B, 2, none⟩ (by simp) (.int .i64 (m2 : Int))
        have r2 := R2.put FS hWP
        have F2 := (F1.trans (E2.mono (m := [b, B]) (by simp))).trans (FS.mono (m := [b, B]) (by simp))
        clear y2 z2 R2 E2 G2 r1 F1 k1 k FS
        generalize (u2).setCell ⟨B, 2, none⟩ (.int .i64 (m2 : Int)) = W2 at *
        have x0 : W2.cell? ⟨I, 0, none⟩ = some (.pointer (some ⟨b, 0, none⟩)) := r2.cI
        go_wp2_with fail
        refine (HNu.out _ _ r2.rd).mono ?_; rintro e u3 ⟨m3, s3, rfl, bm3, G3, E3, iso3⟩
        have R3 := r2.call G3 E3
        clear x0
        have k := E3.at k2 (show B ∉ [b] by simp; omega)
        have y3 : u3.cell? ⟨B, 3, none⟩ = some (.int .i64 0) := by rw [Lib.cell_of_heap k]; rfl
        have z3 : u3.frozen? ⟨B, 3, none⟩ = false := Lib.frozen_of_heap k 3
        go_upto_region 23 with (fail)
        have k3 : ((u3).setCell ⟨B, 3, none⟩ (.int .i64 (m3 : Int))).heap[B]? = some (.cells #[.int .i64 (m1 : Int), .int .i64 (q1 : Int), .int .i64 (m2 : Int), .int .i64 (m3 : Int)] 52 (0, 0)) := heap_setN (k) 3 _
        have FS := (Fr.refl [B] u3).setCell ⟨B, 3, none⟩ (by simp) (.int .i64 (m3 : Int))
        have r3 := R3.put FS hWP
        have F3 := (F2.trans (E3.mono (m := [b, B]) (by simp))).trans (FS.mono (m := [b, B]) (by simp))
        clear y3 z3 R3 E3 G3 r2 F2 k2 k FS
        generalize (u3).setCell ⟨B, 3, none⟩ (.int .i64 (m3 : Int)) = W3 at *
        have HX := Lib.hid (spotR_isO iso1 iso2 iso3)
        clear iso1 iso2 iso3
        have hFb : Fr [b] wc W3 := F3.fewer hWw
        have hF2 : Fr [b] wc.drew W3 := ⟨hFb.os, hFb.tape, hFb.output, hFb.size, hFb.block⟩
        have hQw : Q < wc.heap.size := by have := Ar.size; omega
        obtain ⟨xs, hx, hrA⟩ := row_ready hrow hF2 (by have := r3.bP; omega) (.cells #[.int .i64 (m1 : Int), .int .i64 (q1 : Int), .int .i64 (m2 : Int), .int .i64 (m3 : Int)] 52)
        have hvA : ItIn (Off Q (.slice pa pl pc)) (W3.alloc (.cells #[.int .i64 (m1 : Int), .int .i64 (q1 : Int), .int .i64 (m2 : Int), .int .i64 (m3 : Int)] 52)) 13 4 0 ([(m1 : Int), (q1 : Int), (m2 : Int), (m3 : Int)], []) #[.int .i64 (m1 : Int), .int .i64 (q1 : Int), .int .i64 (m2 : Int), .int .i64 (m3 : Int)] := ⟨rfl, rfl, [], rfl, fun i hi => absurd hi (Nat.not_lt_zero i), rfl⟩
        have hgP := r3.hP
        have cp : W3.cell? ⟨P, 3, none⟩ = some (.slice pa pl pc) := by rw [Lib.cell_of_heap hgP]; rfl
        have cp2 := (World.cell?_alloc_some W3 _ (.cells #[.int .i64 (m1 : Int), .int .i64 (q1 : Int), .int .i64 (m2 : Int), .int .i64 (m3 : Int)] 52) (by rw [cp]; rfl)).trans cp
        have y0 : W3.cell? ⟨B, 0, none⟩ = some (.int .i64 (m1 : Int)) := by rw [Lib.cell_of_heap k3]; rfl
        have y1 : W3.cell? ⟨B, 1, none⟩ = some (.int .i64 (q1 : Int)) := by rw [Lib.cell_of_heap k3]; rfl
        have y2 : W3.cell? ⟨B, 2, none⟩ = some (.int .i64 (m2 : Int)) := by rw [Lib.cell_of_heap k3]; rfl
        have y3 : W3.cell? ⟨B, 3, none⟩ = some (.int .i64 (m3 : Int)) := by rw [Lib.cell_of_heap k3]; rfl
        obtain ⟨i0, hi0, hz0, hz1, hz2⟩ := Go.info_parts zero_it1
        have HII := Lib.hid hi0; have HZ0 := Lib.hid hz0; have HZ1 := Lib.hid hz1; have HZ2 := Lib.hid hz2
        clear hi0 hz0 hz1 hz2
        have hPn : P < W3.heap.size := lt_of_block hgP
        have hln : its.length ≤ 500 := by rw [HIL.out]; omega
        have hQn : Q + 1 ≤ (W3.alloc (.cells #[.int .i64 (m1 : Int), .int .i64 (q1 : Int), .int .i64 (m2 : Int), .int .i64 (m3 : Int)] 52)).heap.size := by have := hFb.size; simp; omega
        clear hF2
        go_wp2_with (at_builtin; refine wpList_append_lies _ rfl _ _ _ (by rfl) (Q + 1) 52 i0 _ 4 32 Tryz.underlying23 HII.out HZ0.out HZ1.out HZ2.out rfl (by omega) (.slice pa pl pc) its.length xs (by rfl) hx ⟨W3.heap.size, 0, none⟩ 1 1 [.int .i64 (m1 : Int), .int .i64 (q1 : Int), .int .i64 (m2 : Int), .int .i64 (m3 : Int)] (by rfl) (by rfl) (World.news_of_block (cs := #[.int .i64 (m1 : Int), .int .i64 (q1 : Int), .int .i64 (m2 : Int), .int .i64 (m3 : Int)]) (t := 52) (fr := (0, 0)) (heap_alloc_new W3 _)) (by simp [Value.oneCell']) (by omega) (by unfold maxLen; omega) (by omega) hQn (W3.heap.size + 1) (by simp) ?_)
        intro g cap u9 hown hgrow hat hlt9
        have hrF := hrA.item hx (by rfl) hvA hown hgrow hat (by simp)
        have hnO : ∀ k, k ≤ Q → some k ≠ Value.ownBlock (.slice pa pl pc) := fun k hk e => absurd (own_lt hx e.symm).1 (Nat.not_le_of_lt (Nat.lt_succ_of_le hk))
        have hG : ∀ k, k ≤ Q → k < W3.heap.size → u9.heap[k]? = W3.heap[k]? := fun k hk hl => (hgrow.block k (Nat.lt_of_lt_of_le hl (by simp)) (hnO k hk)).trans (Lib.alloc_old W3 _ k hl)
        have hPQ : P ≤ Q := by omega
        have g9 := (hG P hPQ hPn).trans hgP
        have e9 : u9.cell? ⟨P, 3, none⟩ = some (.slice pa pl pc) := by rw [Lib.cell_of_heap g9]; rfl
        have z9 : u9.frozen? ⟨P, 3, none⟩ = false := Lib.frozen_of_heap g9 3
        have F6 := (Fr.refl [P] u9).setCell ⟨P, 3, none⟩ (by simp) (.slice (some ⟨g, 0, none⟩) (its.length + 1) cap)
        have g6 : (u9.setCell ⟨P, 3, none⟩ (.slice (some ⟨g, 0, none⟩) (its.length + 1) cap)).heap[P]? = some (.cells #[.int .i64 (n0 : Int), .int .i64 (n1 : Int), .slice pa0 pl0 pc0, .slice (some ⟨g, 0, none⟩) (its.length + 1) cap, .slice none 0 0, .slice none 0 0, .slice none 0 0] 28 (0, 0)) := heap_setN g9 3 _
        have A5 : Fr [b, P] wm (W3.alloc (.cells #[.int .i64 (m1 : Int), .int .i64 (q1 : Int), .int .i64 (m2 : Int), .int .i64 (m3 : Int)] 52)) := (Ar.trans (hFb.mono (m := [b, P]) (by simp))).alloc _
        have fg : Fr [b, P] wm u9 := ⟨hgrow.os.trans A5.os, hgrow.tape.trans A5.tape, hgrow.output.trans A5.output, Nat.le_trans A5.size hgrow.size, fun k hk hn => (hgrow.block k (Nat.lt_of_lt_of_le hk A5.size) (hnO k (by omega))).trans (A5.block k hk hn)⟩
        have hrw6 := r3.turn (u' := u9.setCell ⟨P, 3, none⟩ (.slice (some ⟨g, 0, none⟩) (its.length + 1) cap)) (fun k hk hl => (F6.block k (Nat.lt_of_lt_of_le hl (Nat.le_trans (by simp) hgrow.size)) (by simp; omega)).trans (hG k (by omega) hl)) g6 (hgrow.os.trans rfl) (hgrow.tape.trans rfl) (hgrow.output.trans rfl) (Nat.le_trans (Nat.le_trans (by simp) hgrow.size) F6.size)
        have r6 : RowIt Q 13 4 0 4 52 (its ++ [([(m1 : Int), (q1 : Int), (m2 : Int), (m3 : Int)], [])]) (.slice (some ⟨g, 0, none⟩) (its.length + 1) cap) (u9.setCell ⟨P, 3, none⟩ (.slice (some ⟨g, 0, none⟩) (its.length + 1) cap)) := hrF.far (b := P) F6.grown hPQ
        have fg6 := fg.trans (F6.mono (m := [b, P]) (by simp))
        have HN := Lib.hid (HE2.out.step HX.out)
        clear F6 A5 fg hrF hnO hG g9 hgrow hat hlt9 hown hrA hx hvA hFb HE2 HX r3 F3 k3 cp cp2 hgP y0 y1 y2 y3
        go_wp2_with fail
        clear e9 z9
        generalize u9.setCell ⟨P, 3, none⟩ (.slice (some ⟨g, 0, none⟩) (its.length + 1) cap) = X9 at *
        go_roundw
        case rel => exact ⟨i + 1, its ++ [([(m1 : Int), (q1 : Int), (m2 : Int), (m3 : Int)], [])], _, s3, by omega, by go_num, by simp; exact HIL.out, hrw6, fg6, r6, HN.out⟩
        case measure => simp [intOf]; omega
    case rest =>
      obtain ⟨t1, pa1, pl1, pc1, st, hrw, Ar, a1, hQR⟩ := hcut
      have HQ := Lib.hid hQR
      clear hQR
      have a0 := b0.kept Ar.size (T := fun g => P < g) (fun g hS hl => ⟨hS, Ar.block g hl (by have hS : P < g := hS; have := hrw.bP; simp; omega)⟩)
      clear hrw0 HI0 hWm hQ Ar hN5  b0
      have x0 : wc.cell? ⟨I, 0, none⟩ = some (.pointer (some ⟨b, 0, none⟩)) := hrw.cI
      -- list 2
      go_wp2_with fail
      refine (HMa.out _ _ hrw.rd).mono ?_; rintro e wm ⟨N, s0, rfl, hN5, G0, E0, iso0⟩
      have hrw0 := hrw.call G0 E0
      have HI0 := Lib.hid (InvR.start (K := (K2 (n0 : Int) (n1 : Int) t0 t1)) (N := N) HQ.out iso0)
      have b0 := a0.kept E0.size (T := fun g => P < g) (fun g hS hl => ⟨hS, E0.block g hl (hrw.far hS)⟩)
      have b1 := a1.kept E0.size (T := fun g => P < g) (fun g hS hl => ⟨hS, E0.block g hl (hrw.far hS)⟩)
      clear iso0 G0 HQ hrw E0 x0  a0 a1
      have hWm := hrw0.ltP
      obtain ⟨Q, hQ⟩ : ∃ Q, wm.heap.size = Q + 1 := ⟨wm.heap.size - 1, by omega⟩
      go_upto_block 4 with (fail)
      go_cut [] (fun wx => ∃ its pa pl pc st, RdW H b I P s st w #[.int .i64 (n0 : Int), .int .i64 (n1 : Int), .slice pa0 pl0 pc0, .slice pa1 pl1 pc1, .slice pa pl pc, .slice none 0 0, .slice none 0 0] wx ∧ Fr [b, P] wm wx ∧ SlIn (fun g => P < g) wx 13 9 3 1 (.slice pa pl pc) its ∧ R = st.bind ((K2 (n0 : Int) (n1 : Int) t0 t1) its))
      case first =>
        go_wp2_with fail
        go_loopw [11] (fun iv wr => ∃ (i : Nat) (its : List It) (pi : Value) (st : Option (List UInt8)), i ≤ N ∧ iv = .int .i64 (i : Int) ∧ its.length = i ∧ RdW H b I P s st w #[.int .i64 (n0 : Int), .int .i64 (n1 : Int), .slice pa0 pl0 pc0, .slice pa1 pl1 pc1, pi, .slice none 0 0, .slice none 0 0] wr ∧ Fr [b, P] wm wr ∧ RowIt Q 13 3 1 9 61 its pi wr ∧ InvR R putR (N - i) (K2 (n0 : Int) (n1 : Int) t0 t1) its st) (fun iv _ => N - (intOf iv).toNat)
        case atStart => exact ⟨0, [], .slice none 0 0, s0, by omega, rfl, rfl, hrw0, Fr.refl _ _, RowIt.nil _ _ _ _ _ _ _, HI0.out⟩
        case round =>
          clear HI0
          obtain ⟨i, its, pi, st, hi, rfl, hil, hrw, Ar, hrow, hE⟩ := hrel
          obtain ⟨pa, pl, pc, rfl⟩ : ∃ a c d, pi = .slice a c d := by
            obtain ⟨xs, h1, _⟩ := hrow
            rcases h1.2 with ⟨h, _⟩ | ⟨g, cap, cur, h, _⟩
            · exact ⟨_, _, _, h⟩
            · exact ⟨_, _, _, h⟩
          have hbQ : b ≤ Q := by have := hrw0.bP; omega
          have HIL := Lib.hid hil
          have HE := Lib.hid hE
          clear hil hE
          by_cases hlt : i < N
          case neg =>
            have t7 : decide ((i : Int) < (N : Int)) = false := by simp; omega
            go_wp2_with fail
            go_meet
            case rel => exact ⟨its, pa, pl, pc, st, hrw, Ar, (hrow.done (by rw [HIL.out]; omega)).kept (Nat.le_refl _) (T := fun g => P < g) (fun g hS _ => ⟨by have hS : Q < g := hS; omega, rfl⟩), InvR.done HE.out (.inl (by omega))⟩
          have t7 : decide ((i : Int) < (N : Int)) = true := by simp; omega
          have x0 : wr.cell? ⟨I, 0, none⟩ = some (.pointer (some ⟨b, 0, none⟩)) := hrw.cI
          cases st with
          | none =>
            have HO := Lib.hid (fun u h => (show Calls Tryz.prog 30 #[.agg #[.pointer (some ⟨b, 0, none⟩)]] u (fun e w' => e = .returned (.bool false) ∧ RdAt b s none 0 w' ∧ Fr [b] u w') from HOk.out none u h))
            go_wp2_with fail
            refine (HO.out _ hrw.rd).mono ?_; rintro e u ⟨rfl, h1, f1⟩
            replace hrw := hrw.call h1 f1
            replace Ar := Ar.trans (f1.mono (m := [b, P]) (by simp))
            replace hrow := hrow.far f1.grown hbQ
            go_wp2_with fail
            go_meet
            case rel => exact ⟨its, pa, pl, pc, none, hrw, Ar, (hrow.done (by rw [HIL.out]; omega)).kept (Nat.le_refl _) (T := fun g => P < g) (fun g hS _ => ⟨by have hS : Q < g := hS; omega, rfl⟩), InvR.done HE.out (.inr rfl)⟩
          | some l =>
          have HO := Lib.hid (fun u h => (show Calls Tryz.prog 30 #[.agg #[.pointer (some ⟨b, 0, none⟩)]] u (fun e w' => e = .returned (.bool true) ∧ RdAt b s (some l) 0 w' ∧ Fr [b] u w') from HOk.out (some l) u h))
          have HE2 := Lib.hid (show InvR R putR (N - (i + 1) + 1) (K2 (n0 : Int) (n1 : Int) t0 t1) its (some l) by rw [show N - (i + 1) + 1 = N - i by omega]; exact HE.out)
          clear HE
          go_wp2_with fail
          refine (HO.out _ hrw.rd).mono ?_; rintro e wc ⟨rfl, h1, f1⟩
          replace hrw := hrw.call h1 f1
          replace Ar := Ar.trans (f1.mono (m := [b, P]) (by simp))
          replace hrow := hrow.far f1.grown hbQ
          clear x0 HO h1 f1
          have F0 : Fr [b] wc wc := Fr.refl _ _
          have x0 : wc.cell? ⟨I, 0, none⟩ = some (.pointer (some ⟨b, 0, none⟩)) := hrw.cI
          go_wp2_with fail
          refine (HIn.out _ _ hrw.rd).mono ?_; rintro e u1 ⟨m1, q1, s1, rfl, bm1, bq1, G1, E1, iso1⟩
          have R1 := hrw.call G1 E1
          clear x0
          go_upto_region 29 with (fail)
          have k1 : (u1.alloc (.cells #[.int .i64 (m1 : Int), .int .i64 (q1 : Int), .int .i64 0, .int .i64 0, .int .i64 0, .float .f64 0, .string ⟨#[]⟩, .slice none 0 0, .slice none 0 0] 61)).heap[u1.heap.size]? = some (.cells #[.int .i64 (m1 : Int), .int .i64 (q1 : Int), .int .i64 0, .int .i64 0, .int .i64 0, .float .f64 0, .string ⟨#[]⟩, .slice none 0 0, .slice none 0 0] 61 (0, 0)) := heap_alloc_new u1 _
          have r1 := R1.alloc (.cells #[.int .i64 (m1 : Int), .int .i64 (q1 : Int), .int .i64 0, .int .i64 0, .int .i64 0, .float .f64 0, .string ⟨#[]⟩, .slice none 0 0, .slice none 0 0] 61)
          have hWP := R1.ltP
          have F1 : Fr [b, u1.heap.size] wc (u1.alloc (.cells #[.int .i64 (m1 : Int), .int .i64 (q1 : Int), .int .i64 0, .int .i64 0, .int .i64 0, .float .f64 0, .string ⟨#[]⟩, .slice none 0 0, .slice none 0 0] 61)) := (E1.mono (by simp)).alloc _
          have hWw : wc.heap.size ≤ u1.heap.size := E1.size
          clear R1 E1 G1 F0
          generalize u1.alloc (.cells #[.int .i64 (m1 : Int), .int .i64 (q1 : Int), .int .i64 0, .int .i64 0, .int .i64 0, .float .f64 0, .string ⟨#[]⟩, .slice none 0 0, .slice none 0 0] 61) = W1 at *
          generalize u1.heap.size = B at *
          have hbB : b < B := Nat.lt_of_lt_of_le (Nat.lt_of_le_of_lt (Nat.le_of_lt r1.bP) hWP) (Nat.le_refl _)
          have x0 : W1.cell? ⟨I, 0, none⟩ = some (.pointer (some ⟨b, 0, none⟩)) := r1.cI
          go_wp2_with fail
          refine (HNu.out _ _ r1.rd).mono ?_; rintro e u2 ⟨m2, s2, rfl, bm2, G2, E2, iso2⟩
          have R2 := r1.call G2 E2
          clear x0
          have k := E2.at k1 (show B ∉ [b] by simp; omega)
          have y2 : u2.cell? ⟨B, 2, none⟩ = some (.int .i64 0) := by rw [Lib.cell_of_heap k]; rfl
          have z2 : u2.frozen? ⟨B, 2, none⟩ = false := Lib.frozen_of_heap k 2
          go_upto_region 30 with (fail)
          have k2 : ((u2).setCell ⟨B, 2, none⟩ (.int .i64 (m2 : Int))).heap[B]? = some (.cells #[.int .i64 (m1 : Int), .int .i64 (q1 : Int), .int .i64 (m2 : Int), .int .i64 0, .int .i64 0, .float .f64 0, .string ⟨#[]⟩, .slice none 0 0, .slice none 0 0] 61 (0, 0)) := heap_setN (k) 2 _
          have FS := (Fr.refl [B] u2).setCell ⟨B, 2, none⟩ (by simp) (.int .i64 (m2 : Int))
          have r2 := R2.put FS hWP
          have F2 := (F1.trans (E2.mono (m := [b, B]) (by simp))).trans (FS.mono (m := [b, B]) (by simp))
          clear y2 z2 R2 E2 G2 r1 F1 k1 k FS
          generalize (u2).setCell ⟨B, 2, none⟩ (.int .i64 (m2 : Int)) = W2 at *
          have x0 : W2.cell? ⟨I, 0, none⟩ = some (.pointer (some ⟨b, 0, none⟩)) := r2.cI
          go_wp2_with fail
          refine (HVa.out _ _ r2.rd).mono ?_; rintro e u3 ⟨v3, cs3, s3, rfl, V3, G3, E3, iso3⟩
          have R3 := r2.call G3 E3
          clear x0
          obtain ⟨na3, nl3, nc3, ia3, il3, ic3, rfl⟩ := V3.six
          have k := E3.at k2 (show B ∉ [b] by simp; omega)
          have y3 : u3.cell? ⟨B, 3, none⟩ = some (.int .i64 0) := by rw [Lib.cell_of_heap k]; rfl
          have z3 : u3.frozen? ⟨B, 3, none⟩ = false := Lib.frozen_of_heap k 3
          have y4 : u3.cell? ⟨B, 4, none⟩ = some (.int .i64 0) := by rw [Lib.cell_of_heap k]; rfl
          have z4 : u3.frozen? ⟨B, 4, none⟩ = false := Lib.frozen_of_heap k 4
          have y5 : u3.cell? ⟨B, 5, none⟩ = some (.float .f64 0) := by rw [Lib.cell_of_heap k]; rfl
          have z5 : u3.frozen? ⟨B, 5, none⟩ = false := Lib.frozen_of_heap k 5
          have y6 : u3.cell? ⟨B, 6, none⟩ = some (.string ⟨#[]⟩) := by rw [Lib.cell_of_heap k]; rfl
          have z6 : u3.frozen? ⟨B, 6, none⟩ = false := Lib.frozen_of_heap k 6
          have y7 : u3.cell? ⟨B, 7, none⟩ = some (.slice none 0 0) := by rw [Lib.cell_of_heap k]; rfl
          have z7 : u3.frozen? ⟨B, 7, none⟩ = false := Lib.frozen_of_heap k 7
          have y8 : u3.cell? ⟨B, 8, none⟩ = some (.slice none 0 0) := by rw [Lib.cell_of_heap k]; rfl
          have z8 : u3.frozen? ⟨B, 8, none⟩ = false := Lib.frozen_of_heap k 8
          go_upto_region 31 with (fail)
          have k3 : (((((((u3).setCell ⟨B, 3, none⟩ (.int .i64 v3.kind)).setCell ⟨B, 4, none⟩ (.int .i64 v3.num)).setCell ⟨B, 5, none⟩ (.float .f64 v3.flt)).setCell ⟨B, 6, none⟩ (.string ⟨v3.str.toArray⟩)).setCell ⟨B, 7, none⟩ (.slice na3 nl3 nc3)).setCell ⟨B, 8, none⟩ (.slice ia3 il3 ic3)).heap[B]? = some (.cells #[.int .i64 (m1 : Int), .int .i64 (q1 : Int), .int .i64 (m2 : Int), .int .i64 v3.kind, .int .i64 v3.num, .float .f64 v3.flt, .string ⟨v3.str.toArray⟩, .slice na3 nl3 nc3, .slice ia3 il3 ic3] 61 (0, 0)) := heap_setN (heap_setN (heap_setN (heap_setN (heap_setN (heap_setN (k) 3 _) 4 _) 5 _) 6 _) 7 _) 8 _
          have FS := ((((((Fr.refl [B] u3).setCell ⟨B, 3, none⟩ (by simp) (.int .i64 v3.kind)).setCell ⟨B, 4, none⟩ (by simp) (.int .i64 v3.num)).setCell ⟨B, 5, none⟩ (by simp) (.float .f64 v3.flt)).setCell ⟨B, 6, none⟩ (by simp) (.string ⟨v3.str.toArray⟩)).setCell ⟨B, 7, none⟩ (by simp) (.slice na3 nl3 nc3)).setCell ⟨B, 8, none⟩ (by simp) (.slice ia3 il3 ic3)
          have r3 := R3.put FS hWP
          have F3 := (F2.trans (E3.mono (m := [b, B]) (by simp))).trans (FS.mono (m := [b, B]) (by simp))
          have hL3 : B < W2.heap.size := lt_of_block k2
          replace V3 := V3.fr FS (fun g hg hn => by simp at hg; omega)
          replace V3 := V3.kept (T := fun g => B < g) (Nat.le_refl _) (fun g hS _ => ⟨by have hS : W2.heap.size ≤ g := hS; omega, rfl⟩)
          clear hL3
          clear y3 z3 y4 z4 y5 z5 y6 z6 y7 z7 y8 z8 R3 E3 G3 r2 F2 k2 k FS
          generalize ((((((u3).setCell ⟨B, 3, none⟩ (.int .i64 v3.kind)).setCell ⟨B, 4, none⟩ (.int .i64 v3.num)).setCell ⟨B, 5, none⟩ (.float .f64 v3.flt)).setCell ⟨B, 6, none⟩ (.string ⟨v3.str.toArray⟩)).setCell ⟨B, 7, none⟩ (.slice na3 nl3 nc3)).setCell ⟨B, 8, none⟩ (.slice ia3 il3 ic3) = W3 at *
          have HX := Lib.hid (putR_isO iso1 iso2 iso3)
          clear iso1 iso2 iso3
          have hFb : Fr [b] wc W3 := F3.fewer hWw
          have hF2 : Fr [b] wc.drew W3 := ⟨hFb.os, hFb.tape, hFb.output, hFb.size, hFb.block⟩
          have hQw : Q < wc.heap.size := by have := Ar.size; omega
          obtain ⟨xs, hx, hrA⟩ := row_ready hrow hF2 (by have := r3.bP; omega) (.cells #[.int .i64 (m1 : Int), .int .i64 (q1 : Int), .int .i64 (m2 : Int), .int .i64 v3.kind, .int .i64 v3.num, .float .f64 v3.flt, .string ⟨v3.str.toArray⟩, .slice na3 nl3 nc3, .slice ia3 il3 ic3] 61)
          have W3v := val_ready hrow (L := B) (V3.kept (T := fun g => B ≤ g) (Nat.le_refl _) (fun g hS _ => ⟨Nat.le_of_lt hS, rfl⟩)) hWw hQw (.cells #[.int .i64 (m1 : Int), .int .i64 (q1 : Int), .int .i64 (m2 : Int), .int .i64 v3.kind, .int .i64 v3.num, .float .f64 v3.flt, .string ⟨v3.str.toArray⟩, .slice na3 nl3 nc3, .slice ia3 il3 ic3] 61)
          have hvA : ItIn (Off Q (.slice pa pl pc)) (W3.alloc (.cells #[.int .i64 (m1 : Int), .int .i64 (q1 : Int), .int .i64 (m2 : Int), .int .i64 v3.kind, .int .i64 v3.num, .float .f64 v3.flt, .string ⟨v3.str.toArray⟩, .slice na3 nl3 nc3, .slice ia3 il3 ic3] 61)) 13 3 1 ([(m1 : Int), (q1 : Int), (m2 : Int)], [v3]) #[.int .i64 (m1 : Int), .int .i64 (q1 : Int), .int .i64 (m2 : Int), .int .i64 v3.kind, .int .i64 v3.num, .float .f64 v3.flt, .string ⟨v3.str.toArray⟩, .slice na3 nl3 nc3, .slice ia3 il3 ic3] := ⟨rfl, rfl, [#[.int .i64 v3.kind, .int .i64 v3.num, .float .f64 v3.flt, .string ⟨v3.str.toArray⟩, .slice na3 nl3 nc3, .slice ia3 il3 ic3]], rfl, fun i hi => by match i, hi with | 0, _ => exact W3v, rfl⟩
          have hgP := r3.hP
          have cp : W3.cell? ⟨P, 4, none⟩ = some (.slice pa pl pc) := by rw [Lib.cell_of_heap hgP]; rfl
          have cp2 := (World.cell?_alloc_some W3 _ (.cells #[.int .i64 (m1 : Int), .int .i64 (q1 : Int), .int .i64 (m2 : Int), .int .i64 v3.kind, .int .i64 v3.num, .float .f64 v3.flt, .string ⟨v3.str.toArray⟩, .slice na3 nl3 nc3, .slice ia3 il3 ic3] 61) (by rw [cp]; rfl)).trans cp
          have y0 : W3.cell? ⟨B, 0, none⟩ = some (.int .i64 (m1 : Int)) := by rw [Lib.cell_of_heap k3]; rfl
          have y1 : W3.cell? ⟨B, 1, none⟩ = some (.int .i64 (q1 : Int)) := by rw [Lib.cell_of_heap k3]; rfl
          have y2 : W3.cell? ⟨B, 2, none⟩ = some (.int .i64 (m2 : Int)) := by rw [Lib.cell_of_heap k3]; rfl
          have y3 : W3.cell? ⟨B, 3, none⟩ = some (.int .i64 v3.kind) := by rw [Lib.cell_of_heap k3]; rfl
          have y4 : W3.cell? ⟨B, 4, none⟩ = some (.int .i64 v3.num) := by rw [Lib.cell_of_heap k3]; rfl
          have y5 : W3.cell? ⟨B, 5, none⟩ = some (.float .f64 v3.flt) := by rw [Lib.cell_of_heap k3]; rfl
          have y6 : W3.cell? ⟨B, 6, none⟩ = some (.string ⟨v3.str.toArray⟩) := by rw [Lib.cell_of_heap k3]; rfl
          have y7 : W3.cell? ⟨B, 7, none⟩ = some (.slice na3 nl3 nc3) := by rw [Lib.cell_of_heap k3]; rfl
          have y8 : W3.cell? ⟨B, 8, none⟩ = some (.slice ia3 il3 ic3) := by rw [Lib.cell_of_heap k3]; rfl
          obtain ⟨i0, hi0, hz0, hz1, hz2⟩ := Go.info_parts zero_it2
          have HII := Lib.hid hi0; have HZ0 := Lib.hid hz0; have HZ1 := Lib.hid hz1; have HZ2 := Lib.hid hz2
          clear hi0 hz0 hz1 hz2
          have hPn : P < W3.heap.size := lt_of_block hgP
          have hln : its.length ≤ 500 := by rw [HIL.out]; omega
          have hQn : Q + 1 ≤ (W3.alloc (.cells #[.int .i64 (m1 : Int), .int .i64 (q1 : Int), .int .i64 (m2 : Int), .int .i64 v3.kind, .int .i64 v3.num, .float .f64 v3.flt, .string ⟨v3.str.toArray⟩, .slice na3 nl3 nc3, .slice ia3 il3 ic3] 61)).heap.size := by have := hFb.size; simp; omega
          clear V3 W3v
          go_wp2_with (at_builtin; refine wpList_append_lies _ rfl _ _ _ (by rfl) (Q + 1) 61 i0 _ 9 112 Tryz.underlying24 HII.out HZ0.out HZ1.out HZ2.out rfl (by omega) (.slice pa pl pc) its.length xs (by rfl) hx ⟨W3.heap.size, 0, none⟩ 1 1 [.int .i64 (m1 : Int), .int .i64 (q1 : Int), .int .i64 (m2 : Int), .int .i64 v3.kind, .int .i64 v3.num, .float .f64 v3.flt, .string ⟨v3.str.toArray⟩, .slice na3 nl3 nc3, .slice ia3 il3 ic3] (by rfl) (by rfl) (World.news_of_block (cs := #[.int .i64 (m1 : Int), .int .i64 (q1 : Int), .int .i64 (m2 : Int), .int .i64 v3.kind, .int .i64 v3.num, .float .f64 v3.flt, .string ⟨v3.str.toArray⟩, .slice na3 nl3 nc3, .slice ia3 il3 ic3]) (t := 61) (fr := (0, 0)) (heap_alloc_new W3 _)) (by simp [Value.oneCell']) (by omega) (by unfold maxLen; omega) (by omega) hQn (W3.heap.size + 1) (by simp) ?_)
          intro g cap u9 hown hgrow hat hlt9
          have hrF := hrA.item hx (by rfl) hvA hown hgrow hat (by simp)
          have hnO : ∀ k, k ≤ Q → some k ≠ Value.ownBlock (.slice pa pl pc) := fun k hk e => absurd (own_lt hx e.symm).1 (Nat.not_le_of_lt (Nat.lt_succ_of_le hk))
          have hG : ∀ k, k ≤ Q → k < W3.heap.size → u9.heap[k]? = W3.heap[k]? := fun k hk hl => (hgrow.block k (Nat.lt_of_lt_of_le hl (by simp)) (hnO k hk)).trans (Lib.alloc_old W3 _ k hl)
          have hPQ : P ≤ Q := by omega
          have g9 := (hG P hPQ hPn).trans hgP
          have e9 : u9.cell? ⟨P, 4, none⟩ = some (.slice pa pl pc) := by rw [Lib.cell_of_heap g9]; rfl
          have z9 : u9.frozen? ⟨P, 4, none⟩ = false := Lib.frozen_of_heap g9 4
          have F6 := (Fr.refl [P] u9).setCell ⟨P, 4, none⟩ (by simp) (.slice (some ⟨g, 0, none⟩) (its.length + 1) cap)
          have g6 : (u9.setCell ⟨P, 4, none⟩ (.slice (some ⟨g, 0, none⟩) (its.length + 1) cap)).heap[P]? = some (.cells #[.int .i64 (n0 : Int), .int .i64 (n1 : Int), .slice pa0 pl0 pc0, .slice pa1 pl1 pc1, .slice (some ⟨g, 0, none⟩) (its.length + 1) cap, .slice none 0 0, .slice none 0 0] 28 (0, 0)) := heap_setN g9 4 _
          have A5 : Fr [b, P] wm (W3.alloc (.cells #[.int .i64 (m1 : Int), .int .i64 (q1 : Int), .int .i64 (m2 : Int), .int .i64 v3.kind, .int .i64 v3.num, .float .f64 v3.flt, .string ⟨v3.str.toArray⟩, .slice na3 nl3 nc3, .slice ia3 il3 ic3] 61)) := (Ar.trans (hFb.mono (m := [b, P]) (by simp))).alloc _
          have fg : Fr [b, P] wm u9 := ⟨hgrow.os.trans A5.os, hgrow.tape.trans A5.tape, hgrow.output.trans A5.output, Nat.le_trans A5.size hgrow.size, fun k hk hn => (hgrow.block k (Nat.lt_of_lt_of_le hk A5.size) (hnO k (by omega))).trans (A5.block k hk hn)⟩
          have hrw6 := r3.turn (u' := u9.setCell ⟨P, 4, none⟩ (.slice (some ⟨g, 0, none⟩) (its.length + 1) cap)) (fun k hk hl => (F6.block k (Nat.lt_of_lt_of_le hl (Nat.le_trans (by simp) hgrow.size)) (by simp; omega)).trans (hG k (by omega) hl)) g6 (hgrow.os.trans rfl) (hgrow.tape.trans rfl) (hgrow.output.trans rfl) (Nat.le_trans (Nat.le_trans (by simp) hgrow.size) F6.size)
          have r6 : RowIt Q 13 3 1 9 61 (its ++ [([(m1 : Int), (q1 : Int), (m2 : Int)], [v3])]) (.slice (some ⟨g, 0, none⟩) (its.length + 1) cap) (u9.setCell ⟨P, 4, none⟩ (.slice (some ⟨g, 0, none⟩) (its.length + 1) cap)) := hrF.far (b := P) F6.grown hPQ
          have fg6 := fg.trans (F6.mono (m := [b, P]) (by simp))
          have HN := Lib.hid (HE2.out.step HX.out)
          clear F6 A5 fg hrF hnO hG g9 hgrow hat hlt9 hown hrA hx hvA hFb hF2 HE2 HX r3 F3 k3 cp cp2 hgP y0 y1 y2 y3 y4 y5 y6 y7 y8
          go_wp2_with fail
          clear e9 z9
          generalize u9.setCell ⟨P, 4, none⟩ (.slice (some ⟨g, 0, none⟩) (its.length + 1) cap) = X9 at *
          go_roundw
          case rel => exact ⟨i + 1, its ++ [([(m1 : Int), (q1 : Int), (m2 : Int)], [v3])], _, s3, by omega, by go_num, by simp; exact HIL.out, hrw6, fg6, r6, HN.out⟩
          case measure => simp [intOf]; omega
      case rest =>
        obtain ⟨t2, pa2, pl2, pc2, st, hrw, Ar, a2, hQR⟩ := hcut
        have HQ := Lib.hid hQR
        clear hQR
        have a0 := b0.kept Ar.size (T := fun g => P < g) (fun g hS hl => ⟨hS, Ar.block g hl (by have hS : P < g := hS; have := hrw.bP; simp; omega)⟩)
        have a1 := b1.kept Ar.size (T := fun g => P < g) (fun g hS hl => ⟨hS, Ar.block g hl (by have hS : P < g := hS; have := hrw.bP; simp; omega)⟩)
        clear hrw0 HI0 hWm hQ Ar hN5  b0 b1
        have x0 : wc.cell? ⟨I, 0, none⟩ = some (.pointer (some ⟨b, 0, none⟩)) := hrw.cI
        -- list 3
        go_wp2_with fail
        refine (HMa.out _ _ hrw.rd).mono ?_; rintro e wm ⟨N, s0, rfl, hN5, G0, E0, iso0⟩
        have hrw0 := hrw.call G0 E0
        have HI0 := Lib.hid (InvR.start (K := (K3 (n0 : Int) (n1 : Int) t0 t1 t2)) (N := N) HQ.out iso0)
        have b0 := a0.kept E0.size (T := fun g => P < g) (fun g hS hl => ⟨hS, E0.block g hl (hrw.far hS)⟩)
        have b1 := a1.kept E0.size (T := fun g => P < g) (fun g hS hl => ⟨hS, E0.block g hl (hrw.far hS)⟩)
        have b2 := a2.kept E0.size (T := fun g => P < g) (fun g hS hl => ⟨hS, E0.block g hl (hrw.far hS)⟩)
        clear iso0 G0 HQ hrw E0 x0  a0 a1 a2
        have hWm := hrw0.ltP
        obtain ⟨Q, hQ⟩ : ∃ Q, wm.heap.size = Q + 1 := ⟨wm.heap.size - 1, by omega⟩
        go_upto_block 6 with (fail)
        go_cut [] (fun wx => ∃ its pa pl pc st, RdW H b I P s st w #[.int .i64 (n0 : Int), .int .i64 (n1 : Int), .slice pa0 pl0 pc0, .slice pa1 pl1 pc1, .slice pa2 pl2 pc2, .slice pa pl pc, .slice none 0 0] wx ∧ Fr [b, P] wm wx ∧ SlIn (fun g => P < g) wx 13 13 1 2 (.slice pa pl pc) its ∧ R = st.bind ((K3 (n0 : Int) (n1 : Int) t0 t1 t2) its))
        case first =>
          go_wp2_with fail
          go_loopw [13] (fun iv wr => ∃ (i : Nat) (its : List It) (pi : Value) (st : Option (List UInt8)), i ≤ N ∧ iv = .int .i64 (i : Int) ∧ its.length = i ∧ RdW H b I P s st w #[.int .i64 (n0 : Int), .int .i64 (n1 : Int), .slice pa0 pl0 pc0, .slice pa1 pl1 pc1, .slice pa2 pl2 pc2, pi, .slice none 0 0] wr ∧ Fr [b, P] wm wr ∧ RowIt Q 13 1 2 13 63 its pi wr ∧ InvR R letterR (N - i) (K3 (n0 : Int) (n1 : Int) t0 t1 t2) its st) (fun iv _ => N - (intOf iv).toNat)
          case atStart => exact ⟨0, [], .slice none 0 0, s0, by omega, rfl, rfl, hrw0, Fr.refl _ _, RowIt.nil _ _ _ _ _ _ _, HI0.out⟩
          case round =>
            clear HI0
            obtain ⟨i, its, pi, st, hi, rfl, hil, hrw, Ar, hrow, hE⟩ := hrel
            obtain ⟨pa, pl, pc, rfl⟩ : ∃ a c d, pi = .slice a c d := by
              obtain ⟨xs, h1, _⟩ := hrow
              rcases h1.2 with ⟨h, _⟩ | ⟨g, cap, cur, h, _⟩
              · exact ⟨_, _, _, h⟩
              · exact ⟨_, _, _, h⟩
            have hbQ : b ≤ Q := by have := hrw0.bP; omega
            have HIL := Lib.hid hil
            have HE := Lib.hid hE
            clear hil hE
            by_cases hlt : i < N
            case neg =>
              have t7 : decide ((i : Int) < (N : Int)) = false := by simp; omega
              go_wp2_with fail
              go_meet
              case rel => exact ⟨its, pa, pl, pc, st, hrw, Ar, (hrow.done (by rw [HIL.out]; omega)).kept (Nat.le_refl _) (T := fun g => P < g) (fun g hS _ => ⟨by have hS : Q < g := hS; omega, rfl⟩), InvR.done HE.out (.inl (by omega))⟩
            have t7 : decide ((i : Int) < (N : Int)) = true := by simp; omega
            have x0 : wr.cell? ⟨I, 0, none⟩ = some (.pointer (some ⟨b, 0, none⟩)) := hrw.cI
            cases st with
            | none =>
              have HO := Lib.hid (fun u h => (show Calls Tryz.prog 30 #[.agg #[.pointer (some ⟨b, 0, none⟩)]] u (fun e w' => e = .returned (.bool false) ∧ RdAt b s none 0 w' ∧ Fr [b] u w') from HOk.out none u h))
              go_wp2_with fail
              refine (HO.out _ hrw.rd).mono ?_; rintro e u ⟨rfl, h1, f1⟩
              replace hrw := hrw.call h1 f1
              replace Ar := Ar.trans (f1.mono (m := [b, P]) (by simp))
              replace hrow := hrow.far f1.grown hbQ
              go_wp2_with fail
              go_meet
              case rel => exact ⟨its, pa, pl, pc, none, hrw, Ar, (hrow.done (by rw [HIL.out]; omega)).kept (Nat.le_refl _) (T := fun g => P < g) (fun g hS _ => ⟨by have hS : Q < g := hS; omega, rfl⟩), InvR.done HE.out (.inr rfl)⟩
            | some l =>
            have HO := Lib.hid (fun u h => (show Calls Tryz.prog 30 #[.agg #[.pointer (some ⟨b, 0, none⟩)]] u (fun e w' => e = .returned (.bool true) ∧ RdAt b s (some l) 0 w' ∧ Fr [b] u w') from HOk.out (some l) u h))
            have HE2 := Lib.hid (show InvR R letterR (N - (i + 1) + 1) (K3 (n0 : Int) (n1 : Int) t0 t1 t2) its (some l) by rw [show N - (i + 1) + 1 = N - i by omega]; exact HE.out)
            clear HE
            go_wp2_with fail
            refine (HO.out _ hrw.rd).mono ?_; rintro e wc ⟨rfl, h1, f1⟩
            replace hrw := hrw.call h1 f1
            replace Ar := Ar.trans (f1.mono (m := [b, P]) (by simp))
            replace hrow := hrow.far f1.grown hbQ
            clear x0 HO h1 f1
            have F0 : Fr [b] wc wc := Fr.refl _ _
            have x0 : wc.cell? ⟨I, 0, none⟩ = some (.pointer (some ⟨b, 0, none⟩)) := hrw.cI
            go_wp2_with fail
            refine (HNu.out _ _ hrw.rd).mono ?_; rintro e u1 ⟨m1, s1, rfl, bm1, G1, E1, iso1⟩
            have R1 := hrw.call G1 E1
            clear x0
            go_upto_region 37 with (fail)
            have k1 : (u1.alloc (.cells #[.int .i64 (m1 : Int), .int .i64 0, .int .i64 0, .float .f64 0, .string ⟨#[]⟩, .slice none 0 0, .slice none 0 0, .int .i64 0, .int .i64 0, .float .f64 0, .string ⟨#[]⟩, .slice none 0 0, .slice none 0 0] 63)).heap[u1.heap.size]? = some (.cells #[.int .i64 (m1 : Int), .int .i64 0, .int .i64 0, .float .f64 0, .string ⟨#[]⟩, .slice none 0 0, .slice none 0 0, .int .i64 0, .int .i64 0, .float .f64 0, .string ⟨#[]⟩, .slice none 0 0, .slice none 0 0] 63 (0, 0)) := heap_alloc_new u1 _
            have r1 := R1.alloc (.cells #[.int .i64 (m1 : Int), .int .i64 0, .int .i64 0, .float .f64 0, .string ⟨#[]⟩, .slice none 0 0, .slice none 0 0, .int .i64 0, .int .i64 0, .float .f64 0, .string ⟨#[]⟩, .slice none 0 0, .slice none 0 0] 63)
            have hWP := R1.ltP
            have F1 : Fr [b, u1.heap.size] wc (u1.alloc (.cells #[.int .i64 (m1 : Int), .int .i64 0, .int .i64 0, .float .f64 0, .string ⟨#[]⟩, .slice none 0 0, .slice none 0 0, .int .i64 0, .int .i64 0, .float .f64 0, .string ⟨#[]⟩, .slice none 0 0, .slice none 0 0] 63)) := (E1.mono (by simp)).alloc _
            have hWw : wc.heap.size ≤ u1.heap.size := E1.size
            clear R1 E1 G1 F0
            generalize u1.alloc (.cells #[.int .i64 (m1 : Int), .int .i64 0, .int .i64 0, .float .f64 0, .string ⟨#[]⟩, .slice none 0 0, .slice none 0 0, .int .i64 0, .int .i64 0, .float .f64 0, .string ⟨#[]⟩, .slice none 0 0, .slice none 0 0] 63) = W1 at *
            generalize u1.heap.size = B at *
            have hbB : b < B := Nat.lt_of_lt_of_le (Nat.lt_of_le_of_lt (Nat.le_of_lt r1.bP) hWP) (Nat.le_refl _)
            have x0 : W1.cell? ⟨I, 0, none⟩ = some (.pointer (some ⟨b, 0, none⟩)) := r1.cI
            go_wp2_with fail
            refine (HVa.out _ _ r1.rd).mono ?_; rintro e u2 ⟨v2, cs2, s2, rfl, V2, G2, E2, iso2⟩
            have R2 := r1.call G2 E2
            clear x0
            obtain ⟨na2, nl2, nc2, ia2, il2, ic2, rfl⟩ := V2.six
            have k := E2.at k1 (show B ∉ [b] by simp; omega)
            have y1 : u2.cell? ⟨B, 1, none⟩ = some (.int .i64 0) := by rw [Lib.cell_of_heap k]; rfl
            have z1 : u2.frozen? ⟨B, 1, none⟩ = false := Lib.frozen_of_heap k 1
            have y2 : u2.cell? ⟨B, 2, none⟩ = some (.int .i64 0) := by rw [Lib.cell_of_heap k]; rfl
            have z2 : u2.frozen? ⟨B, 2, none⟩ = false := Lib.frozen_of_heap k 2
            have y3 : u2.cell? ⟨B, 3, none⟩ = some (.float .f64 0) := by rw [Lib.cell_of_heap k]; rfl
            have z3 : u2.frozen? ⟨B, 3, none⟩ = false := Lib.frozen_of_heap k 3
            have y4 : u2.cell? ⟨B, 4, none⟩ = some (.string ⟨#[]⟩) := by rw [Lib.cell_of_heap k]; rfl
            have z4 : u2.frozen? ⟨B, 4, none⟩ = false := Lib.frozen_of_heap k 4
            have y5 : u2.cell? ⟨B, 5, none⟩ = some (.slice none 0 0) := by rw [Lib.cell_of_heap k]; rfl
            have z5 : u2.frozen? ⟨B, 5, none⟩ = false := Lib.frozen_of_heap k 5
            have y6 : u2.cell? ⟨B, 6, none⟩ = some (.slice none 0 0) := by rw [Lib.cell_of_heap k]; rfl
            have z6 : u2.frozen? ⟨B, 6, none⟩ = false := Lib.frozen_of_heap k 6
            go_upto_region 38 with (fail)
            have k2 : (((((((u2).setCell ⟨B, 1, none⟩ (.int .i64 v2.kind)).setCell ⟨B, 2, none⟩ (.int .i64 v2.num)).setCell ⟨B, 3, none⟩ (.float .f64 v2.flt)).setCell ⟨B, 4, none⟩ (.string ⟨v2.str.toArray⟩)).setCell ⟨B, 5, none⟩ (.slice na2 nl2 nc2)).setCell ⟨B, 6, none⟩ (.slice ia2 il2 ic2)).heap[B]? = some (.cells #[.int .i64 (m1 : Int), .int .i64 v2.kind, .int .i64 v2.num, .float .f64 v2.flt, .string ⟨v2.str.toArray⟩, .slice na2 nl2 nc2, .slice ia2 il2 ic2, .int .i64 0, .int .i64 0, .float .f64 0, .string ⟨#[]⟩, .slice none 0 0, .slice none 0 0] 63 (0, 0)) := heap_setN (heap_setN (heap_setN (heap_setN (heap_setN (heap_setN (k) 1 _) 2 _) 3 _) 4 _) 5 _) 6 _
            have FS := ((((((Fr.refl [B] u2).setCell ⟨B, 1, none⟩ (by simp) (.int .i64 v2.kind)).setCell ⟨B, 2, none⟩ (by simp) (.int .i64 v2.num)).setCell ⟨B, 3, none⟩ (by simp) (.float .f64 v2.flt)).setCell ⟨B, 4, none⟩ (by simp) (.string ⟨v2.str.toArray⟩)).setCell ⟨B, 5, none⟩ (by simp) (.slice na2 nl2 nc2)).setCell ⟨B, 6, none⟩ (by simp) (.slice ia2 il2 ic2)
            have r2 := R2.put FS hWP
            have F2 := (F1.trans (E2.mono (m := [b, B]) (by simp))).trans (FS.mono (m := [b, B]) (by simp))
            have hL2 : B < W1.heap.size := lt_of_block k1
            replace V2 := V2.fr FS (fun g hg hn => by simp at hg; omega)
            replace V2 := V2.kept (T := fun g => B < g) (Nat.le_refl _) (fun g hS _ => ⟨by have hS : W1.heap.size ≤ g := hS; omega, rfl⟩)
            clear hL2
            clear y1 z1 y2 z2 y3 z3 y4 z4 y5 z5 y6 z6 R2 E2 G2 r1 F1 k1 k FS
            generalize ((((((u2).setCell ⟨B, 1, none⟩ (.int .i64 v2.kind)).setCell ⟨B, 2, none⟩ (.int .i64 v2.num)).setCell ⟨B, 3, none⟩ (.float .f64 v2.flt)).setCell ⟨B, 4, none⟩ (.string ⟨v2.str.toArray⟩)).setCell ⟨B, 5, none⟩ (.slice na2 nl2 nc2)).setCell ⟨B, 6, none⟩ (.slice ia2 il2 ic2) = W2 at *
            have x0 : W2.cell? ⟨I, 0, none⟩ = some (.pointer (some ⟨b, 0, none⟩)) := r2.cI
            go_wp2_with fail
            refine (HVa.out _ _ r2.rd).mono ?_; rintro e u3 ⟨v3, cs3, s3, rfl, V3, G3, E3, iso3⟩
            have R3 := r2.call G3 E3
            clear x0
            obtain ⟨na3, nl3, nc3, ia3, il3, ic3, rfl⟩ := V3.six
            have k := E3.at k2 (show B ∉ [b] by simp; omega)
            have y7 : u3.cell? ⟨B, 7, none⟩ = some (.int .i64 0) := by rw [Lib.cell_of_heap k]; rfl
            have z7 : u3.frozen? ⟨B, 7, none⟩ = false := Lib.frozen_of_heap k 7
            have y8 : u3.cell? ⟨B, 8, none⟩ = some (.int .i64 0) := by rw [Lib.cell_of_heap k]; rfl
            have z8 : u3.frozen? ⟨B, 8, none⟩ = false := Lib.frozen_of_heap k 8
            have y9 : u3.cell? ⟨B, 9, none⟩ = some (.float .f64 0) := by rw [Lib.cell_of_heap k]; rfl
            have z9 : u3.frozen? ⟨B, 9, none⟩ = false := Lib.frozen_of_heap k 9
            have y10 : u3.cell? ⟨B, 10, none⟩ = some (.string ⟨#[]⟩) := by rw [Lib.cell_of_heap k]; rfl
            have z10 : u3.frozen? ⟨B, 10, none⟩ = false := Lib.frozen_of_heap k 10
            have y11 : u3.cell? ⟨B, 11, none⟩ = some (.slice none 0 0) := by rw [Lib.cell_of_heap k]; rfl
            have z11 : u3.frozen? ⟨B, 11, none⟩ = false := Lib.frozen_of_heap k 11
            have y12 : u3.cell? ⟨B, 12, none⟩ = some (.slice none 0 0) := by rw [Lib.cell_of_heap k]; rfl
            have z12 : u3.frozen? ⟨B, 12, none⟩ = false := Lib.frozen_of_heap k 12
            go_upto_region 39 with (fail)
            have k3 : (((((((u3).setCell ⟨B, 7, none⟩ (.int .i64 v3.kind)).setCell ⟨B, 8, none⟩ (.int .i64 v3.num)).setCell ⟨B, 9, none⟩ (.float .f64 v3.flt)).setCell ⟨B, 10, none⟩ (.string ⟨v3.str.toArray⟩)).setCell ⟨B, 11, none⟩ (.slice na3 nl3 nc3)).setCell ⟨B, 12, none⟩ (.slice ia3 il3 ic3)).heap[B]? = some (.cells #[.int .i64 (m1 : Int), .int .i64 v2.kind, .int .i64 v2.num, .float .f64 v2.flt, .string ⟨v2.str.toArray⟩, .slice na2 nl2 nc2, .slice ia2 il2 ic2, .int .i64 v3.kind, .int .i64 v3.num, .float .f64 v3.flt, .string ⟨v3.str.toArray⟩, .slice na3 nl3 nc3, .slice ia3 il3 ic3] 63 (0, 0)) := heap_setN (heap_setN (heap_setN (heap_setN (heap_setN (heap_setN (k) 7 _) 8 _) 9 _) 10 _) 11 _) 12 _
            have FS := ((((((Fr.refl [B] u3).setCell ⟨B, 7, none⟩ (by simp) (.int .i64 v3.kind)).setCell ⟨B, 8, none⟩ (by simp) (.int .i64 v3.num)).setCell ⟨B, 9, none⟩ (by simp) (.float .f64 v3.flt)).setCell ⟨B, 10, none⟩ (by simp) (.string ⟨v3.str.toArray⟩)).setCell ⟨B, 11, none⟩ (by simp) (.slice na3 nl3 nc3)).setCell ⟨B, 12, none⟩ (by simp) (.slice ia3 il3 ic3)
            have r3 := R3.put FS hWP
            have F3 := (F2.trans (E3.mono (m := [b, B]) (by simp))).trans (FS.mono (m := [b, B]) (by simp))
            replace V2 := (V2.fr E3 (fun g hg hn => by simp at hg; omega)).fr FS (fun g hg hn => by simp at hg; omega)
            have hL3 : B < W2.heap.size := lt_of_block k2
            replace V3 := V3.fr FS (fun g hg hn => by simp at hg; omega)
            replace V3 := V3.kept (T := fun g => B < g) (Nat.le_refl _) (fun g hS _ => ⟨by have hS : W2.heap.size ≤ g := hS; omega, rfl⟩)
            clear hL3
            clear y7 z7 y8 z8 y9 z9 y10 z10 y11 z11 y12 z12 R3 E3 G3 r2 F2 k2 k FS
            generalize ((((((u3).setCell ⟨B, 7, none⟩ (.int .i64 v3.kind)).setCell ⟨B, 8, none⟩ (.int .i64 v3.num)).setCell ⟨B, 9, none⟩ (.float .f64 v3.flt)).setCell ⟨B, 10, none⟩ (.string ⟨v3.str.toArray⟩)).setCell ⟨B, 11, none⟩ (.slice na3 nl3 nc3)).setCell ⟨B, 12, none⟩ (.slice ia3 il3 ic3) = W3 at *
            have HX := Lib.hid (letterR_isO iso1 iso2 iso3)
            clear iso1 iso2 iso3
            have hFb : Fr [b] wc W3 := F3.fewer hWw
            have hF2 : Fr [b] wc.drew W3 := ⟨hFb.os, hFb.tape, hFb.output, hFb.size, hFb.block⟩
            have hQw : Q < wc.heap.size := by have := Ar.size; omega
            obtain ⟨xs, hx, hrA⟩ := row_ready hrow hF2 (by have := r3.bP; omega) (.cells #[.int .i64 (m1 : Int), .int .i64 v2.kind, .int .i64 v2.num, .float .f64 v2.flt, .string ⟨v2.str.toArray⟩, .slice na2 nl2 nc2, .slice ia2 il2 ic2, .int .i64 v3.kind, .int .i64 v3.num, .float .f64 v3.flt, .string ⟨v3.str.toArray⟩, .slice na3 nl3 nc3, .slice ia3 il3 ic3] 63)
            have W2v := val_ready hrow (L := B) (V2.kept (T := fun g => B ≤ g) (Nat.le_refl _) (fun g hS _ => ⟨Nat.le_of_lt hS, rfl⟩)) hWw hQw (.cells #[.int .i64 (m1 : Int), .int .i64 v2.kind, .int .i64 v2.num, .float .f64 v2.flt, .string ⟨v2.str.toArray⟩, .slice na2 nl2 nc2, .slice ia2 il2 ic2, .int .i64 v3.kind, .int .i64 v3.num, .float .f64 v3.flt, .string ⟨v3.str.toArray⟩, .slice na3 nl3 nc3, .slice ia3 il3 ic3] 63)
            have W3v := val_ready hrow (L := B) (V3.kept (T := fun g => B ≤ g) (Nat.le_refl _) (fun g hS _ => ⟨Nat.le_of_lt hS, rfl⟩)) hWw hQw (.cells #[.int .i64 (m1 : Int), .int .i64 v2.kind, .int .i64 v2.num, .float .f64 v2.flt, .string ⟨v2.str.toArray⟩, .slice na2 nl2 nc2, .slice ia2 il2 ic2, .int .i64 v3.kind, .int .i64 v3.num, .float .f64 v3.flt, .string ⟨v3.str.toArray⟩, .slice na3 nl3 nc3, .slice ia3 il3 ic3] 63)
            have hvA : ItIn (Off Q (.slice pa pl pc)) (W3.alloc (.cells #[.int .i64 (m1 : Int), .int .i64 v2.kind, .int .i64 v2.num, .float .f64 v2.flt, .string ⟨v2.str.toArray⟩, .slice na2 nl2 nc2, .slice ia2 il2 ic2, .int .i64 v3.kind, .int .i64 v3.num, .float .f64 v3.flt, .string ⟨v3.str.toArray⟩, .slice na3 nl3 nc3, .slice ia3 il3 ic3] 63)) 13 1 2 ([(m1 : Int)], [v2, v3]) #[.int .i64 (m1 : Int), .int .i64 v2.kind, .int .i64 v2.num, .float .f64 v2.flt, .string ⟨v2.str.toArray⟩, .slice na2 nl2 nc2, .slice ia2 il2 ic2, .int .i64 v3.kind, .int .i64 v3.num, .float .f64 v3.flt, .string ⟨v3.str.toArray⟩, .slice na3 nl3 nc3, .slice ia3 il3 ic3] := ⟨rfl, rfl, [#[.int .i64 v2.kind, .int .i64 v2.num, .float .f64 v2.flt, .string ⟨v2.str.toArray⟩, .slice na2 nl2 nc2, .slice ia2 il2 ic2], #[.int .i64 v3.kind, .int .i64 v3.num, .float .f64 v3.flt, .string ⟨v3.str.toArray⟩, .slice na3 nl3 nc3, .slice ia3 il3 ic3]], rfl, fun i hi => by match i, hi with | 0, _ => exact W2v | 1, _ => exact W3v, rfl⟩
            have hgP := r3.hP
            have cp : W3.cell? ⟨P, 5, none⟩ = some (.slice pa pl pc) := by rw [Lib.cell_of_heap hgP]; rfl
            have cp2 := (World.cell?_alloc_some W3 _ (.cells #[.int .i64 (m1 : Int), .int .i64 v2.kind, .int .i64 v2.num, .float .f64 v2.flt, .string ⟨v2.str.toArray⟩, .slice na2 nl2 nc2, .slice ia2 il2 ic2, .int .i64 v3.kind, .int .i64 v3.num, .float .f64 v3.flt, .string ⟨v3.str.toArray⟩, .slice na3 nl3 nc3, .slice ia3 il3 ic3] 63) (by rw [cp]; rfl)).trans cp
            have y0 : W3.cell? ⟨B, 0, none⟩ = some (.int .i64 (m1 : Int)) := by rw [Lib.cell_of_heap k3]; rfl
            have y1 : W3.cell? ⟨B, 1, none⟩ = some (.int .i64 v2.kind) := by rw [Lib.cell_of_heap k3]; rfl
            have y2 : W3.cell? ⟨B, 2, none⟩ = some (.int .i64 v2.num) := by rw [Lib.cell_of_heap k3]; rfl
            have y3 : W3.cell? ⟨B, 3, none⟩ = some (.float .f64 v2.flt) := by rw [Lib.cell_of_heap k3]; rfl
            have y4 : W3.cell? ⟨B, 4, none⟩ = some (.string ⟨v2.str.toArray⟩) := by rw [Lib.cell_of_heap k3]; rfl
            have y5 : W3.cell? ⟨B, 5, none⟩ = some (.slice na2 nl2 nc2) := by rw [Lib.cell_of_heap k3]; rfl
            have y6 : W3.cell? ⟨B, 6, none⟩ = some (.slice ia2 il2 ic2) := by rw [Lib.cell_of_heap k3]; rfl
            have y7 : W3.cell? ⟨B, 7, none⟩ = some (.int .i64 v3.kind) := by rw [Lib.cell_of_heap k3]; rfl
            have y8 : W3.cell? ⟨B, 8, none⟩ = some (.int .i64 v3.num) := by rw [Lib.cell_of_heap k3]; rfl
            have y9 : W3.cell? ⟨B, 9, none⟩ = some (.float .f64 v3.flt) := by rw [Lib.cell_of_heap k3]; rfl
            have y10 : W3.cell? ⟨B, 10, none⟩ = some (.string ⟨v3.str.toArray⟩) := by rw [Lib.cell_of_heap k3]; rfl
            have y11 : W3.cell? ⟨B, 11, none⟩ = some (.slice na3 nl3 nc3) := by rw [Lib.cell_of_heap k3]; rfl
            have y12 : W3.cell? ⟨B, 12, none⟩ = some (.slice ia3 il3 ic3) := by rw [Lib.cell_of_heap k3]; rfl
            obtain ⟨i0, hi0, hz0, hz1, hz2⟩ := Go.info_parts zero_it3
            have HII := Lib.hid hi0; have HZ0 := Lib.hid hz0; have HZ1 := Lib.hid hz1; have HZ2 := Lib.hid hz2
            clear hi0 hz0 hz1 hz2
            have hPn : P < W3.heap.size := lt_of_block hgP
            have hln : its.length ≤ 500 := by rw [HIL.out]; omega
            have hQn : Q + 1 ≤ (W3.alloc (.cells #[.int .i64 (m1 : Int), .int .i64 v2.kind, .int .i64 v2.num, .float .f64 v2.flt, .string ⟨v2.str.toArray⟩, .slice na2 nl2 nc2, .slice ia2 il2 ic2, .int .i64 v3.kind, .int .i64 v3.num, .float .f64 v3.flt, .string ⟨v3.str.toArray⟩, .slice na3 nl3 nc3, .slice ia3 il3 ic3] 63)).heap.size := by have := hFb.size; simp; omega
            clear V2 W2v V3 W3v
            go_wp2_with (at_builtin; refine wpList_append_lies _ rfl _ _ _ (by rfl) (Q + 1) 63 i0 _ 13 184 Tryz.underlying25 HII.out HZ0.out HZ1.out HZ2.out rfl (by omega) (.slice pa pl pc) its.length xs (by rfl) hx ⟨W3.heap.size, 0, none⟩ 1 1 [.int .i64 (m1 : Int), .int .i64 v2.kind, .int .i64 v2.num, .float .f64 v2.flt, .string ⟨v2.str.toArray⟩, .slice na2 nl2 nc2, .slice ia2 il2 ic2, .int .i64 v3.kind, .int .i64 v3.num, .float .f64 v3.flt, .string ⟨v3.str.toArray⟩, .slice na3 nl3 nc3, .slice ia3 il3 ic3] (by rfl) (by rfl) (World.news_of_block (cs := #[.int .i64 (m1 : Int), .int .i64 v2.kind, .int .i64 v2.num, .float .f64 v2.flt, .string ⟨v2.str.toArray⟩, .slice na2 nl2 nc2, .slice ia2 il2 ic2, .int .i64 v3.kind, .int .i64 v3.num, .float .f64 v3.flt, .string ⟨v3.str.toArray⟩, .slice na3 nl3 nc3, .slice ia3 il3 ic3]) (t := 63) (fr := (0, 0)) (heap_alloc_new W3 _)) (by simp [Value.oneCell']) (by omega) (by unfold maxLen; omega) (by omega) hQn (W3.heap.size + 1) (by simp) ?_)
            intro g cap u9 hown hgrow hat hlt9
            have hrF := hrA.item hx (by rfl) hvA hown hgrow hat (by simp)
            have hnO : ∀ k, k ≤ Q → some k ≠ Value.ownBlock (.slice pa pl pc) := fun k hk e => absurd (own_lt hx e.symm).1 (Nat.not_le_of_lt (Nat.lt_succ_of_le hk))
            have hG : ∀ k, k ≤ Q → k < W3.heap.size → u9.heap[k]? = W3.heap[k]? := fun k hk hl => (hgrow.block k (Nat.lt_of_lt_of_le hl (by simp)) (hnO k hk)).trans (Lib.alloc_old W3 _ k hl)
            have hPQ : P ≤ Q := by omega
            have g9 := (hG P hPQ hPn).trans hgP
            have e9 : u9.cell? ⟨P, 5, none⟩ = some (.slice pa pl pc) := by rw [Lib.cell_of_heap g9]; rfl
            have z9 : u9.frozen? ⟨P, 5, none⟩ = false := Lib.frozen_of_heap g9 5
            have F6 := (Fr.refl [P] u9).setCell ⟨P, 5, none⟩ (by simp) (.slice (some ⟨g, 0, none⟩) (its.length + 1) cap)
            have g6 : (u9.setCell ⟨P, 5, none⟩ (.slice (some ⟨g, 0, none⟩) (its.length + 1) cap)).heap[P]? = some (.cells #[.int .i64 (n0 : Int), .int .i64 (n1 : Int), .slice pa0 pl0 pc0, .slice pa1 pl1 pc1, .slice pa2 pl2 pc2, .slice (some ⟨g, 0, none⟩) (its.length + 1) cap, .slice none 0 0] 28 (0, 0)) := heap_setN g9 5 _
            have A5 : Fr [b, P] wm (W3.alloc (.cells #[.int .i64 (m1 : Int), .int .i64 v2.kind, .int .i64 v2.num, .float .f64 v2.flt, .string ⟨v2.str.toArray⟩, .slice na2 nl2 nc2, .slice ia2 il2 ic2, .int .i64 v3.kind, .int .i64 v3.num, .float .f64 v3.flt, .string ⟨v3.str.toArray⟩, .slice na3 nl3 nc3, .slice ia3 il3 ic3] 63)) := (Ar.trans (hFb.mono (m := [b, P]) (by simp))).alloc _
            have fg : Fr [b, P] wm u9 := ⟨hgrow.os.trans A5.os, hgrow.tape.trans A5.tape, hgrow.output.trans A5.output, Nat.le_trans A5.size hgrow.size, fun k hk hn => (hgrow.block k (Nat.lt_of_lt_of_le hk A5.size) (hnO k (by omega))).trans (A5.block k hk hn)⟩
            have hrw6 := r3.turn (u' := u9.setCell ⟨P, 5, none⟩ (.slice (some ⟨g, 0, none⟩) (its.length + 1) cap)) (fun k hk hl => (F6.block k (Nat.lt_of_lt_of_le hl (Nat.le_trans (by simp) hgrow.size)) (by simp; omega)).trans (hG k (by omega) hl)) g6 (hgrow.os.trans rfl) (hgrow.tape.trans rfl) (hgrow.output.trans rfl) (Nat.le_trans (Nat.le_trans (by simp) hgrow.size) F6.size)
            have r6 : RowIt Q 13 1 2 13 63 (its ++ [([(m1 : Int)], [v2, v3])]) (.slice (some ⟨g, 0, none⟩) (its.length + 1) cap) (u9.setCell ⟨P, 5, none⟩ (.slice (some ⟨g, 0, none⟩) (its.length + 1) cap)) := hrF.far (b := P) F6.grown hPQ
            have fg6 := fg.trans (F6.mono (m := [b, P]) (by simp))
            have HN := Lib.hid (HE2.out.step HX.out)
            clear F6 A5 fg hrF hnO hG g9 hgrow hat hlt9 hown hrA hx hvA hFb hF2 HE2 HX r3 F3 k3 cp cp2 hgP y0 y1 y2 y3 y4 y5 y6 y7 y8 y9 y10 y11 y12
            go_wp2_with fail
            clear e9 z9
            generalize u9.setCell ⟨P, 5, none⟩ (.slice (some ⟨g, 0, none⟩) (its.length + 1) cap) = X9 at *
            go_roundw
            case rel => exact ⟨i + 1, its ++ [([(m1 : Int)], [v2, v3])], _, s3, by omega, by go_num, by simp; exact HIL.out, hrw6, fg6, r6, HN.out⟩
            case measure => simp [intOf]; omega
        case rest =>
          obtain ⟨t3, pa3, pl3, pc3, st, hrw, Ar, a3, hQR⟩ := hcut
          have HQ := Lib.hid hQR
          clear hQR
          have a0 := b0.kept Ar.size (T := fun g => P < g) (fun g hS hl => ⟨hS, Ar.block g hl (by have hS : P < g := hS; have := hrw.bP; simp; omega)⟩)
          have a1 := b1.kept Ar.size (T := fun g => P < g) (fun g hS hl => ⟨hS, Ar.block g hl (by have hS : P < g := hS; have := hrw.bP; simp; omega)⟩)
          have a2 := b2.kept Ar.size (T := fun g => P < g) (fun g hS hl => ⟨hS, Ar.block g hl (by have hS : P < g := hS; have := hrw.bP; simp; omega)⟩)
          clear hrw0 HI0 hWm hQ Ar hN5  b0 b1 b2
          have x0 : wc.cell? ⟨I, 0, none⟩ = some (.pointer (some ⟨b, 0, none⟩)) := hrw.cI
          -- list 4
          go_wp2_with fail
          refine (HMa.out _ _ hrw.rd).mono ?_; rintro e wm ⟨N, s0, rfl, hN5, G0, E0, iso0⟩
          have hrw0 := hrw.call G0 E0
          have HI0 := Lib.hid (InvR.start (K := (K4 (n0 : Int) (n1 : Int) t0 t1 t2 t3)) (N := N) HQ.out iso0)
          have b0 := a0.kept E0.size (T := fun g => P < g) (fun g hS hl => ⟨hS, E0.block g hl (hrw.far hS)⟩)
          have b1 := a1.kept E0.size (T := fun g => P < g) (fun g hS hl => ⟨hS, E0.block g hl (hrw.far hS)⟩)
          have b2 := a2.kept E0.size (T := fun g => P < g) (fun g hS hl => ⟨hS, E0.block g hl (hrw.far hS)⟩)
          have b3 := a3.kept E0.size (T := fun g => P < g) (fun g hS hl => ⟨hS, E0.block g hl (hrw.far hS)⟩)
          clear iso0 G0 HQ hrw E0 x0  a0 a1 a2 a3
          have hWm := hrw0.ltP
          obtain ⟨Q, hQ⟩ : ∃ Q, wm.heap.size = Q + 1 := ⟨wm.heap.size - 1, by omega⟩
          go_upto_block 8 with (fail)
          go_cut [] (fun wx => ∃ its pa pl pc st, RdW H b I P s st w #[.int .i64 (n0 : Int), .int .i64 (n1 : Int), .slice pa0 pl0 pc0, .slice pa1 pl1 pc1, .slice pa2 pl2 pc2, .slice pa3 pl3 pc3, .slice pa pl pc] wx ∧ Fr [b, P] wm wx ∧ SlIn (fun g => P < g) wx 13 11 5 1 (.slice pa pl pc) its ∧ R = st.bind ((K4 (n0 : Int) (n1 : Int) t0 t1 t2 t3) its))
          case first =>
            go_wp2_with fail
            go_loopw [15] (fun iv wr => ∃ (i : Nat) (its : List It) (pi : Value) (st : Option (List UInt8)), i ≤ N ∧ iv = .int .i64 (i : Int) ∧ its.length = i ∧ RdW H b I P s st w #[.int .i64 (n0 : Int), .int .i64 (n1 : Int), .slice pa0 pl0 pc0, .slice pa1 pl1 pc1, .slice pa2 pl2 pc2, .slice pa3 pl3 pc3, pi] wr ∧ Fr [b, P] wm wr ∧ RowIt Q 13 5 1 11 65 its pi wr ∧ InvR R auditR (N - i) (K4 (n0 : Int) (n1 : Int) t0 t1 t2 t3) its st) (fun iv _ => N - (intOf iv).toNat)
            case atStart => exact ⟨0, [], .slice none 0 0, s0, by omega, rfl, rfl, hrw0, Fr.refl _ _, RowIt.nil _ _ _ _ _ _ _, HI0.out⟩
            case round =>
              clear HI0
              obtain ⟨i, its, pi, st, hi, rfl, hil, hrw, Ar, hrow, hE⟩ := hrel
              obtain ⟨pa, pl, pc, rfl⟩ : ∃ a c d, pi = .slice a c d := by
                obtain ⟨xs, h1, _⟩ := hrow
                rcases h1.2 with ⟨h, _⟩ | ⟨g, cap, cur, h, _⟩
                · exact ⟨_, _, _, h⟩
                · exact ⟨_, _, _, h⟩
              have hbQ : b ≤ Q := by have := hrw0.bP; omega
              have HIL := Lib.hid hil
              have HE := Lib.hid hE
              clear hil hE
              by_cases hlt : i < N
              case neg =>
                have t7 : decide ((i : Int) < (N : Int)) = false := by simp; omega
                go_wp2_with fail
                go_meet
                case rel => exact ⟨its, pa, pl, pc, st, hrw, Ar, (hrow.done (by rw [HIL.out]; omega)).kept (Nat.le_refl _) (T := fun g => P < g) (fun g hS _ => ⟨by have hS : Q < g := hS; omega, rfl⟩), InvR.done HE.out (.inl (by omega))⟩
              have t7 : decide ((i : Int) < (N : Int)) = true := by simp; omega
              have x0 : wr.cell? ⟨I, 0, none⟩ = some (.pointer (some ⟨b, 0, none⟩)) := hrw.cI
              cases st with
              | none =>
                have HO := Lib.hid (fun u h => (show Calls Tryz.prog 30 #[.agg #[.pointer (some ⟨b, 0, none⟩)]] u (fun e w' => e = .returned (.bool false) ∧ RdAt b s none 0 w' ∧ Fr [b] u w') from HOk.out none u h))
                go_wp2_with fail
                refine (HO.out _ hrw.rd).mono ?_; rintro e u ⟨rfl, h1, f1⟩
                replace hrw := hrw.call h1 f1
                replace Ar := Ar.trans (f1.mono (m := [b, P]) (by simp))
                replace hrow := hrow.far f1.grown hbQ
                go_wp2_with fail
                go_meet
                case rel => exact ⟨its, pa, pl, pc, none, hrw, Ar, (hrow.done (by rw [HIL.out]; omega)).kept (Nat.le_refl _) (T := fun g => P < g) (fun g hS _ => ⟨by have hS : Q < g := hS; omega, rfl⟩), InvR.done HE.out (.inr rfl)⟩
              | some l =>
              have HO := Lib.hid (fun u h => (show Calls Tryz.prog 30 #[.agg #[.pointer (some ⟨b, 0, none⟩)]] u (fun e w' => e = .returned (.bool true) ∧ RdAt b s (some l) 0 w' ∧ Fr [b] u w') from HOk.out (some l) u h))
              have HE2 := Lib.hid (show InvR R auditR (N - (i + 1) + 1) (K4 (n0 : Int) (n1 : Int) t0 t1 t2 t3) its (some l) by rw [show N - (i + 1) + 1 = N - i by omega]; exact HE.out)
              clear HE
              go_wp2_with fail
              refine (HO.out _ hrw.rd).mono ?_; rintro e wc ⟨rfl, h1, f1⟩
              replace hrw := hrw.call h1 f1
              replace Ar := Ar.trans (f1.mono (m := [b, P]) (by simp))
              replace hrow := hrow.far f1.grown hbQ
              clear x0 HO h1 f1
              have F0 : Fr [b] wc wc := Fr.refl _ _
              have x0 : wc.cell? ⟨I, 0, none⟩ = some (.pointer (some ⟨b, 0, none⟩)) := hrw.cI
              go_wp2_with fail
              refine (HIn.out _ _ hrw.rd).mono ?_; rintro e u1 ⟨m1, q1, s1, rfl, bm1, bq1, G1, E1, iso1⟩
              have R1 := hrw.call G1 E1
              clear x0
              go_upto_region 45 with (fail)
              have k1 : (u1.alloc (.cells #[.int .i64 (m1 : Int), .int .i64 (q1 : Int), .int .i64 0, .int .i64 0, .int .i64 0, .int .i64 0, .int .i64 0, .float .f64 0, .string ⟨#[]⟩, .slice none 0 0, .slice none 0 0] 65)).heap[u1.heap.size]? = some (.cells #[.int .i64 (m1 : Int), .int .i64 (q1 : Int), .int .i64 0, .int .i64 0, .int .i64 0, .int .i64 0, .int .i64 0, .float .f64 0, .string ⟨#[]⟩, .slice none 0 0, .slice none 0 0] 65 (0, 0)) := heap_alloc_new u1 _
              have r1 := R1.alloc (.cells #[.int .i64 (m1 : Int), .int .i64 (q1 : Int), .int .i64 0, .int .i64 0, .int .i64 0, .int .i64 0, .int .i64 0, .float .f64 0, .string ⟨#[]⟩, .slice none 0 0, .slice none 0 0] 65)
              have hWP := R1.ltP
              have F1 : Fr [b, u1.heap.size] wc (u1.alloc (.cells #[.int .i64 (m1 : Int), .int .i64 (q1 : Int), .int .i64 0, .int .i64 0, .int .i64 0, .int .i64 0, .int .i64 0, .float .f64 0, .string ⟨#[]⟩, .slice none 0 0, .slice none 0 0] 65)) := (E1.mono (by simp)).alloc _
              have hWw : wc.heap.size ≤ u1.heap.size := E1.size
              clear R1 E1 G1 F0
              generalize u1.alloc (.cells #[.int .i64 (m1 : Int), .int .i64 (q1 : Int), .int .i64 0, .int .i64 0, .int .i64 0, .int .i64 0, .int .i64 0, .float .f64 0, .string ⟨#[]⟩, .slice none 0 0, .slice none 0 0] 65) = W1 at *
              generalize u1.heap.size = B at *
              have hbB : b < B := Nat.lt_of_lt_of_le (Nat.lt_of_le_of_lt (Nat.le_of_lt r1.bP) hWP) (Nat.le_refl _)
              have x0 : W1.cell? ⟨I, 0, none⟩ = some (.pointer (some ⟨b, 0, none⟩)) := r1.cI
              go_wp2_with fail
              refine (HNu.out _ _ r1.rd).mono ?_; rintro e u2 ⟨m2, s2, rfl, bm2, G2, E2, iso2⟩
              have R2 := r1.call G2 E2
              clear x0
              have k := E2.at k1 (show B ∉ [b] by simp; omega)
              have y2 : u2.cell? ⟨B, 2, none⟩ = some (.int .i64 0) := by rw [Lib.cell_of_heap k]; rfl
              have z2 : u2.frozen? ⟨B, 2, none⟩ = false := Lib.frozen_of_heap k 2
              go_upto_region 46 with (fail)
              have k2 : ((u2).setCell ⟨B, 2, none⟩ (.int .i64 (m2 : Int))).heap[B]? = some (.cells #[.int .i64 (m1 : Int), .int .i64 (q1 : Int), .int .i64 (m2 : Int), .int .i64 0, .int .i64 0, .int .i64 0, .int .i64 0, .float .f64 0, .string ⟨#[]⟩, .slice none 0 0, .slice none 0 0] 65 (0, 0)) := heap_setN (k) 2 _
              have FS := (Fr.refl [B] u2).setCell ⟨B, 2, none⟩ (by simp) (.int .i64 (m2 : Int))
              have r2 := R2.put FS hWP
              have F2 := (F1.trans (E2.mono (m := [b, B]) (by simp))).trans (FS.mono (m := [b, B]) (by simp))
              clear y2 z2 R2 E2 G2 r1 F1 k1 k FS
              generalize (u2).setCell ⟨B, 2, none⟩ (.int .i64 (m2 : Int)) = W2 at *
              have x0 : W2.cell? ⟨I, 0, none⟩ = some (.pointer (some ⟨b, 0, none⟩)) := r2.cI
              go_wp2_with fail
              refine (HNu.out _ _ r2.rd).mono ?_; rintro e u3 ⟨m3, s3, rfl, bm3, G3, E3, iso3⟩
              have R3 := r2.call G3 E3
              clear x0
              have k := E3.at k2 (show B ∉ [b] by simp; omega)
              have y3 : u3.cell? ⟨B, 3, none⟩ = some (.int .i64 0) := by rw [Lib.cell_of_heap k]; rfl
              have z3 : u3.frozen? ⟨B, 3, none⟩ = false := Lib.frozen_of_heap k 3
              go_upto_region 47 with (fail)
              have k3 : ((u3).setCell ⟨B, 3, none⟩ (.int .i64 (m3 : Int))).heap[B]? = some (.cells #[.int .i64 (m1 : Int), .int .i64 (q1 : Int), .int .i64 (m2 : Int), .int .i64 (m3 : Int), .int .i64 0, .int .i64 0, .int .i64 0, .float .f64 0, .string ⟨#[]⟩, .slice none 0 0, .slice none 0 0] 65 (0, 0)) := heap_setN (k) 3 _
              have FS := (Fr.refl [B] u3).setCell ⟨B, 3, none⟩ (by simp) (.int .i64 (m3 : Int))
              have r3 := R3.put FS hWP
              have F3 := (F2.trans (E3.mono (m := [b, B]) (by simp))).trans (FS.mono (m := [b, B]) (by simp))
              clear y3 z3 R3 E3 G3 r2 F2 k2 k FS
              generalize (u3).setCell ⟨B, 3, none⟩ (.int .i64 (m3 : Int)) = W3 at *
              have x0 : W3.cell? ⟨I, 0, none⟩ = some (.pointer (some ⟨b, 0, none⟩)) := r3.cI
              go_wp2_with fail
              refine (HNu.out _ _ r3.rd).mono ?_; rintro e u4 ⟨m4, s4, rfl, bm4, G4, E4, iso4⟩
              have R4 := r3.call G4 E4
              clear x0
              have k := E4.at k3 (show B ∉ [b] by simp; omega)
              have y4 : u4.cell? ⟨B, 4, none⟩ = some (.int .i64 0) := by rw [Lib.cell_of_heap k]; rfl
              have z4 : u4.frozen? ⟨B, 4, none⟩ = false := Lib.frozen_of_heap k 4
              go_upto_region 48 with (fail)
              have k4 : ((u4).setCell ⟨B, 4, none⟩ (.int .i64 (m4 : Int))).heap[B]? = some (.cells #[.int .i64 (m1 : Int), .int .i64 (q1 : Int), .int .i64 (m2 : Int), .int .i64 (m3 : Int), .int .i64 (m4 : Int), .int .i64 0, .int .i64 0, .float .f64 0, .string ⟨#[]⟩, .slice none 0 0, .slice none 0 0] 65 (0, 0)) := heap_setN (k) 4 _
              have FS := (Fr.refl [B] u4).setCell ⟨B, 4, none⟩ (by simp) (.int .i64 (m4 : Int))
              have r4 := R4.put FS hWP
              have F4 := (F3.trans (E4.mono (m := [b, B]) (by simp))).trans (FS.mono (m := [b, B]) (by simp))
              clear y4 z4 R4 E4 G4 r3 F3 k3 k FS
              generalize (u4).setCell ⟨B, 4, none⟩ (.int .i64 (m4 : Int)) = W4 at *
              have x0 : W4.cell? ⟨I, 0, none⟩ = some (.pointer (some ⟨b, 0, none⟩)) := r4.cI
              go_wp2_with fail
              refine (HVa.out _ _ r4.rd).mono ?_; rintro e u5 ⟨v5, cs5, s5, rfl, V5, G5, E5, iso5⟩
              have R5 := r4.call G5 E5
              clear x0
              obtain ⟨na5, nl5, nc5, ia5, il5, ic5, rfl⟩ := V5.six
              have k := E5.at k4 (show B ∉ [b] by simp; omega)
              have y5 : u5.cell? ⟨B, 5, none⟩ = some (.int .i64 0) := by rw [Lib.cell_of_heap k]; rfl
              have z5 : u5.frozen? ⟨B, 5, none⟩ = false := Lib.frozen_of_heap k 5
              have y6 : u5.cell? ⟨B, 6, none⟩ = some (.int .i64 0) := by rw [Lib.cell_of_heap k]; rfl
              have z6 : u5.frozen? ⟨B, 6, none⟩ = false := Lib.frozen_of_heap k 6
              have y7 : u5.cell? ⟨B, 7, none⟩ = some (.float .f64 0) := by rw [Lib.cell_of_heap k]; rfl
              have z7 : u5.frozen? ⟨B, 7, none⟩ = false := Lib.frozen_of_heap k 7
              have y8 : u5.cell? ⟨B, 8, none⟩ = some (.string ⟨#[]⟩) := by rw [Lib.cell_of_heap k]; rfl
              have z8 : u5.frozen? ⟨B, 8, none⟩ = false := Lib.frozen_of_heap k 8
              have y9 : u5.cell? ⟨B, 9, none⟩ = some (.slice none 0 0) := by rw [Lib.cell_of_heap k]; rfl
              have z9 : u5.frozen? ⟨B, 9, none⟩ = false := Lib.frozen_of_heap k 9
              have y10 : u5.cell? ⟨B, 10, none⟩ = some (.slice none 0 0) := by rw [Lib.cell_of_heap k]; rfl
              have z10 : u5.frozen? ⟨B, 10, none⟩ = false := Lib.frozen_of_heap k 10
              go_upto_region 49 with (fail)
              have k5 : (((((((u5).setCell ⟨B, 5, none⟩ (.int .i64 v5.kind)).setCell ⟨B, 6, none⟩ (.int .i64 v5.num)).setCell ⟨B, 7, none⟩ (.float .f64 v5.flt)).setCell ⟨B, 8, none⟩ (.string ⟨v5.str.toArray⟩)).setCell ⟨B, 9, none⟩ (.slice na5 nl5 nc5)).setCell ⟨B, 10, none⟩ (.slice ia5 il5 ic5)).heap[B]? = some (.cells #[.int .i64 (m1 : Int), .int .i64 (q1 : Int), .int .i64 (m2 : Int), .int .i64 (m3 : Int), .int .i64 (m4 : Int), .int .i64 v5.kind, .int .i64 v5.num, .float .f64 v5.flt, .string ⟨v5.str.toArray⟩, .slice na5 nl5 nc5, .slice ia5 il5 ic5] 65 (0, 0)) := heap_setN (heap_setN (heap_setN (heap_setN (heap_setN (heap_setN (k) 5 _) 6 _) 7 _) 8 _) 9 _) 10 _
              have FS := ((((((Fr.refl [B] u5).setCell ⟨B, 5, none⟩ (by simp) (.int .i64 v5.kind)).setCell ⟨B, 6, none⟩ (by simp) (.int .i64 v5.num)).setCell ⟨B, 7, none⟩ (by simp) (.float .f64 v5.flt)).setCell ⟨B, 8, none⟩ (by simp) (.string ⟨v5.str.toArray⟩)).setCell ⟨B, 9, none⟩ (by simp) (.slice na5 nl5 nc5)).setCell ⟨B, 10, none⟩ (by simp) (.slice ia5 il5 ic5)
              have r5 := R5.put FS hWP
              have F5 := (F4.trans (E5.mono (m := [b, B]) (by simp))).trans (FS.mono (m := [b, B]) (by simp))
              have hL5 : B < W4.heap.size := lt_of_block k4
              replace V5 := V5.fr FS (fun g hg hn => by simp at hg; omega)
              replace V5 := V5.kept (T := fun g => B < g) (Nat.le_refl _) (fun g hS _ => ⟨by have hS : W4.heap.size ≤ g := hS; omega, rfl⟩)
              clear hL5
              clear y5 z5 y6 z6 y7 z7 y8 z8 y9 z9 y10 z10 R5 E5 G5 r4 F4 k4 k FS
              generalize ((((((u5).setCell ⟨B, 5, none⟩ (.int .i64 v5.kind)).setCell ⟨B, 6, none⟩ (.int .i64 v5.num)).setCell ⟨B, 7, none⟩ (.float .f64 v5.flt)).setCell ⟨B, 8, none⟩ (.string ⟨v5.str.toArray⟩)).setCell ⟨B, 9, none⟩ (.slice na5 nl5 nc5)).setCell ⟨B, 10, none⟩ (.slice ia5 il5 ic5) = W5 at *
              have HX := Lib.hid (auditR_isO iso1 iso2 iso3 iso4 iso5)
              clear iso1 iso2 iso3 iso4 iso5
              have hFb : Fr [b] wc W5 := F5.fewer hWw
              have hF2 : Fr [b] wc.drew W5 := ⟨hFb.os, hFb.tape, hFb.output, hFb.size, hFb.block⟩
              have hQw : Q < wc.heap.size := by have := Ar.size; omega
              obtain ⟨xs, hx, hrA⟩ := row_ready hrow hF2 (by have := r5.bP; omega) (.cells #[.int .i64 (m1 : Int), .int .i64 (q1 : Int), .int .i64 (m2 : Int), .int .i64 (m3 : Int), .int .i64 (m4 : Int), .int .i64 v5.kind, .int .i64 v5.num, .float .f64 v5.flt, .string ⟨v5.str.toArray⟩, .slice na5 nl5 nc5, .slice ia5 il5 ic5] 65)
              have W5v := val_ready hrow (L := B) (V5.kept (T := fun g => B ≤ g) (Nat.le_refl _) (fun g hS _ => ⟨Nat.le_of_lt hS, rfl⟩)) hWw hQw (.cells #[.int .i64 (m1 : Int), .int .i64 (q1 : Int), .int .i64 (m2 : Int), .int .i64 (m3 : Int), .int .i64 (m4 : Int), .int .i64 v5.kind, .int .i64 v5.num, .float .f64 v5.flt, .string ⟨v5.str.toArray⟩, .slice na5 nl5 nc5, .slice ia5 il5 ic5] 65)
              have hvA : ItIn (Off Q (.slice pa pl pc)) (W5.alloc (.cells #[.int .i64 (m1 : Int), .int .i64 (q1 : Int), .int .i64 (m2 : Int), .int .i64 (m3 : Int), .int .i64 (m4 : Int), .int .i64 v5.kind, .int .i64 v5.num, .float .f64 v5.flt, .string ⟨v5.str.toArray⟩, .slice na5 nl5 nc5, .slice ia5 il5 ic5] 65)) 13 5 1 ([(m1 : Int), (q1 : Int), (m2 : Int), (m3 : Int), (m4 : Int)], [v5]) #[.int .i64 (m1 : Int), .int .i64 (q1 : Int), .int .i64 (m2 : Int), .int .i64 (m3 : Int), .int .i64 (m4 : Int), .int .i64 v5.kind, .int .i64 v5.num, .float .f64 v5.flt, .string ⟨v5.str.toArray⟩, .slice na5 nl5 nc5, .slice ia5 il5 ic5] := ⟨rfl, rfl, [#[.int .i64 v5.kind, .int .i64 v5.num, .float .f64 v5.flt, .string ⟨v5.str.toArray⟩, .slice na5 nl5 nc5, .slice ia5 il5 ic5]], rfl, fun i hi => by match i, hi with | 0, _ => exact W5v, rfl⟩
              have hgP := r5.hP
              have cp : W5.cell? ⟨P, 6, none⟩ = some (.slice pa pl pc) := by rw [Lib.cell_of_heap hgP]; rfl
              have cp2 := (World.cell?_alloc_some W5 _ (.cells #[.int .i64 (m1 : Int), .int .i64 (q1 : Int), .int .i64 (m2 : Int), .int .i64 (m3 : Int), .int .i64 (m4 : Int), .int .i64 v5.kind, .int .i64 v5.num, .float .f64 v5.flt, .string ⟨v5.str.toArray⟩, .slice na5 nl5 nc5, .slice ia5 il5 ic5] 65) (by rw [cp]; rfl)).trans cp
              have y0 : W5.cell? ⟨B, 0, none⟩ = some (.int .i64 (m1 : Int)) := by rw [Lib.cell_of_heap k5]; rfl
              have y1 : W5.cell? ⟨B, 1, none⟩ = some (.int .i64 (q1 : Int)) := by rw [Lib.cell_of_heap k5]; rfl
              have y2 : W5.cell? ⟨B, 2, none⟩ = some (.int .i64 (m2 : Int)) := by rw [Lib.cell_of_heap k5]; rfl
              have y3 : W5.cell? ⟨B, 3, none⟩ = some (.int .i64 (m3 : Int)) := by rw [Lib.cell_of_heap k5]; rfl
              have y4 : W5.cell? ⟨B, 4, none⟩ = some (.int .i64 (m4 : Int)) := by rw [Lib.cell_of_heap k5]; rfl
              have y5 : W5.cell? ⟨B, 5, none⟩ = some (.int .i64 v5.kind) := by rw [Lib.cell_of_heap k5]; rfl
              have y6 : W5.cell? ⟨B, 6, none⟩ = some (.int .i64 v5.num) := by rw [Lib.cell_of_heap k5]; rfl
              have y7 : W5.cell? ⟨B, 7, none⟩ = some (.float .f64 v5.flt) := by rw [Lib.cell_of_heap k5]; rfl
              have y8 : W5.cell? ⟨B, 8, none⟩ = some (.string ⟨v5.str.toArray⟩) := by rw [Lib.cell_of_heap k5]; rfl
              have y9 : W5.cell? ⟨B, 9, none⟩ = some (.slice na5 nl5 nc5) := by rw [Lib.cell_of_heap k5]; rfl
              have y10 : W5.cell? ⟨B, 10, none⟩ = some (.slice ia5 il5 ic5) := by rw [Lib.cell_of_heap k5]; rfl
              obtain ⟨i0, hi0, hz0, hz1, hz2⟩ := Go.info_parts zero_it4
              have HII := Lib.hid hi0; have HZ0 := Lib.hid hz0; have HZ1 := Lib.hid hz1; have HZ2 := Lib.hid hz2
              clear hi0 hz0 hz1 hz2
              have hPn : P < W5.heap.size := lt_of_block hgP
              have hln : its.length ≤ 500 := by rw [HIL.out]; omega
              have hQn : Q + 1 ≤ (W5.alloc (.cells #[.int .i64 (m1 : Int), .int .i64 (q1 : Int), .int .i64 (m2 : Int), .int .i64 (m3 : Int), .int .i64 (m4 : Int), .int .i64 v5.kind, .int .i64 v5.num, .float .f64 v5.flt, .string ⟨v5.str.toArray⟩, .slice na5 nl5 nc5, .slice ia5 il5 ic5] 65)).heap.size := by have := hFb.size; simp; omega
              clear V5 W5v
              go_wp2_with (at_builtin; refine wpList_append_lies _ rfl _ _ _ (by rfl) (Q + 1) 65 i0 _ 11 128 Tryz.underlying26 HII.out HZ0.out HZ1.out HZ2.out rfl (by omega) (.slice pa pl pc) its.length xs (by rfl) hx ⟨W5.heap.size, 0, none⟩ 1 1 [.int .i64 (m1 : Int), .int .i64 (q1 : Int), .int .i64 (m2 : Int), .int .i64 (m3 : Int), .int .i64 (m4 : Int), .int .i64 v5.kind, .int .i64 v5.num, .float .f64 v5.flt, .string ⟨v5.str.toArray⟩, .slice na5 nl5 nc5, .slice ia5 il5 ic5] (by rfl) (by rfl) (World.news_of_block (cs := #[.int .i64 (m1 : Int), .int .i64 (q1 : Int), .int .i64 (m2 : Int), .int .i64 (m3 : Int), .int .i64 (m4 : Int), .int .i64 v5.kind, .int .i64 v5.num, .float .f64 v5.flt, .string ⟨v5.str.toArray⟩, .slice na5 nl5 nc5, .slice ia5 il5 ic5]) (t := 65) (fr := (0, 0)) (heap_alloc_new W5 _)) (by simp [Value.oneCell']) (by omega) (by unfold maxLen; omega) (by omega) hQn (W5.heap.size + 1) (by simp) ?_)
              intro g cap u9 hown hgrow hat hlt9
              have hrF := hrA.item hx (by rfl) hvA hown hgrow hat (by simp)
              have hnO : ∀ k, k ≤ Q → some k ≠ Value.ownBlock (.slice pa pl pc) := fun k hk e => absurd (own_lt hx e.symm).1 (Nat.not_le_of_lt (Nat.lt_succ_of_le hk))
              have hG : ∀ k, k ≤ Q → k < W5.heap.size → u9.heap[k]? = W5.heap[k]? := fun k hk hl => (hgrow.block k (Nat.lt_of_lt_of_le hl (by simp)) (hnO k hk)).trans (Lib.alloc_old W5 _ k hl)
              have hPQ : P ≤ Q := by omega
              have g9 := (hG P hPQ hPn).trans hgP
              have e9 : u9.cell? ⟨P, 6, none⟩ = some (.slice pa pl pc) := by rw [Lib.cell_of_heap g9]; rfl
              have z9 : u9.frozen? ⟨P, 6, none⟩ = false := Lib.frozen_of_heap g9 6
              have F6 := (Fr.refl [P] u9).setCell ⟨P, 6, none⟩ (by simp) (.slice (some ⟨g, 0, none⟩) (its.length + 1) cap)
              have g6 : (u9.setCell ⟨P, 6, none⟩ (.slice (some ⟨g, 0, none⟩) (its.length + 1) cap)).heap[P]? = some (.cells #[.int .i64 (n0 : Int), .int .i64 (n1 : Int), .slice pa0 pl0 pc0, .slice pa1 pl1 pc1, .slice pa2 pl2 pc2, .slice pa3 pl3 pc3, .slice (some ⟨g, 0, none⟩) (its.length + 1) cap] 28 (0, 0)) := heap_setN g9 6 _
              have A5 : Fr [b, P] wm (W5.alloc (.cells #[.int .i64 (m1 : Int), .int .i64 (q1 : Int), .int .i64 (m2 : Int), .int .i64 (m3 : Int), .int .i64 (m4 : Int), .int .i64 v5.kind, .int .i64 v5.num, .float .f64 v5.flt, .string ⟨v5.str.toArray⟩, .slice na5 nl5 nc5, .slice ia5 il5 ic5] 65)) := (Ar.trans (hFb.mono (m := [b, P]) (by simp))).alloc _
              have fg : Fr [b, P] wm u9 := ⟨hgrow.os.trans A5.os, hgrow.tape.trans A5.tape, hgrow.output.trans A5.output, Nat.le_trans A5.size hgrow.size, fun k hk hn => (hgrow.block k (Nat.lt_of_lt_of_le hk A5.size) (hnO k (by omega))).trans (A5.block k hk hn)⟩
              have hrw6 := r5.turn (u' := u9.setCell ⟨P, 6, none⟩ (.slice (some ⟨g, 0, none⟩) (its.length + 1) cap)) (fun k hk hl => (F6.block k (Nat.lt_of_lt_of_le hl (Nat.le_trans (by simp) hgrow.size)) (by simp; omega)).trans (hG k (by omega) hl)) g6 (hgrow.os.trans rfl) (hgrow.tape.trans rfl) (hgrow.output.trans rfl) (Nat.le_trans (Nat.le_trans (by simp) hgrow.size) F6.size)
              have r6 : RowIt Q 13 5 1 11 65 (its ++ [([(m1 : Int), (q1 : Int), (m2 : Int), (m3 : Int), (m4 : Int)], [v5])]) (.slice (some ⟨g, 0, none⟩) (its.length + 1) cap) (u9.setCell ⟨P, 6, none⟩ (.slice (some ⟨g, 0, none⟩) (its.length + 1) cap)) := hrF.far (b := P) F6.grown hPQ
              have fg6 := fg.trans (F6.mono (m := [b, P]) (by simp))
              have HN := Lib.hid (HE2.out.step HX.out)
              clear F6 A5 fg hrF hnO hG g9 hgrow hat hlt9 hown hrA hx hvA hFb hF2 HE2 HX r5 F5 k5 cp cp2 hgP y0 y1 y2 y3 y4 y5 y6 y7 y8 y9 y10
              go_wp2_with fail
              clear e9 z9
              generalize u9.setCell ⟨P, 6, none⟩ (.slice (some ⟨g, 0, none⟩) (its.length + 1) cap) = X9 at *
              go_roundw
              case rel => exact ⟨i + 1, its ++ [([(m1 : Int), (q1 : Int), (m2 : Int), (m3 : Int), (m4 : Int)], [v5])], _, s5, by omega, by go_num, by simp; exact HIL.out, hrw6, fg6, r6, HN.out⟩
              case measure => simp [intOf]; omega
          case rest =>
            obtain ⟨t4, pa4, pl4, pc4, st, hrw, Ar, a4, hQR⟩ := hcut
            have HQ := Lib.hid hQR
            clear hQR
            have a0 := b0.kept Ar.size (T := fun g => P < g) (fun g hS hl => ⟨hS, Ar.block g hl (by have hS : P < g := hS; have := hrw.bP; simp; omega)⟩)
            have a1 := b1.kept Ar.size (T := fun g => P < g) (fun g hS hl => ⟨hS, Ar.block g hl (by have hS : P < g := hS; have := hrw.bP; simp; omega)⟩)
            have a2 := b2.kept Ar.size (T := fun g => P < g) (fun g hS hl => ⟨hS, Ar.block g hl (by have hS : P < g := hS; have := hrw.bP; simp; omega)⟩)
            have a3 := b3.kept Ar.size (T := fun g => P < g) (fun g hS hl => ⟨hS, Ar.block g hl (by have hS : P < g := hS; have := hrw.bP; simp; omega)⟩)
            clear hrw0 HI0 hWm hQ Ar hN5  b0 b1 b2 b3
            have x0 : wc.cell? ⟨I, 0, none⟩ = some (.pointer (some ⟨b, 0, none⟩)) := hrw.cI
            go_wp2_with fail
            refine (HOk.out _ _ hrw.rd).mono ?_; rintro e u ⟨rfl, h1, f1⟩
            have r := hrw.call h1 f1
            replace a0 := a0.kept f1.size (T := fun g => P < g) (fun g hS hl => ⟨hS, f1.block g hl (hrw.far hS)⟩)
            replace a1 := a1.kept f1.size (T := fun g => P < g) (fun g hS hl => ⟨hS, f1.block g hl (hrw.far hS)⟩)
            replace a2 := a2.kept f1.size (T := fun g => P < g) (fun g hS hl => ⟨hS, f1.block g hl (hrw.far hS)⟩)
            replace a3 := a3.kept f1.size (T := fun g => P < g) (fun g hS hl => ⟨hS, f1.block g hl (hrw.far hS)⟩)
            replace a4 := a4.kept f1.size (T := fun g => P < g) (fun g hS hl => ⟨hS, f1.block g hl (hrw.far hS)⟩)
            clear hrw h1 f1 x0
            cases st with
            | none =>
              have HX := Lib.hid (show R = none from HQ.out)
              have hR9 := r.hR
              have hB9 := r.below
              clear HQ a0 a1 a2 a3 a4
              dsimp only [Option.isSome]
              have y0 : u.cell? ⟨H, 0, none⟩ = some (.int .i64 0) := by rw [Lib.cell_of_heap hR9]; rfl
              have z0 : u.frozen? ⟨H, 0, none⟩ = false := Lib.frozen_of_heap hR9 0
              have y1 : u.cell? ⟨H, 1, none⟩ = some (.int .i64 0) := by rw [Lib.cell_of_heap hR9]; rfl
              have z1 : u.frozen? ⟨H, 1, none⟩ = false := Lib.frozen_of_heap hR9 1
              have y2 : u.cell? ⟨H, 2, none⟩ = some (.slice none 0 0) := by rw [Lib.cell_of_heap hR9]; rfl
              have z2 : u.frozen? ⟨H, 2, none⟩ = false := Lib.frozen_of_heap hR9 2
              have y3 : u.cell? ⟨H, 3, none⟩ = some (.slice none 0 0) := by rw [Lib.cell_of_heap hR9]; rfl
              have z3 : u.frozen? ⟨H, 3, none⟩ = false := Lib.frozen_of_heap hR9 3
              have y4 : u.cell? ⟨H, 4, none⟩ = some (.slice none 0 0) := by rw [Lib.cell_of_heap hR9]; rfl
              have z4 : u.frozen? ⟨H, 4, none⟩ = false := Lib.frozen_of_heap hR9 4
              have y5 : u.cell? ⟨H, 5, none⟩ = some (.slice none 0 0) := by rw [Lib.cell_of_heap hR9]; rfl
              have z5 : u.frozen? ⟨H, 5, none⟩ = false := Lib.frozen_of_heap hR9 5
              have y6 : u.cell? ⟨H, 6, none⟩ = some (.slice none 0 0) := by rw [Lib.cell_of_heap hR9]; rfl
              have z6 : u.frozen? ⟨H, 6, none⟩ = false := Lib.frozen_of_heap hR9 6
              have hgF : ((((((((u).setCell ⟨H, 0, none⟩ (.int .i64 0)).setCell ⟨H, 1, none⟩ (.int .i64 0)).setCell ⟨H, 2, none⟩ (.slice none 0 0)).setCell ⟨H, 3, none⟩ (.slice none 0 0)).setCell ⟨H, 4, none⟩ (.slice none 0 0)).setCell ⟨H, 5, none⟩ (.slice none 0 0)).setCell ⟨H, 6, none⟩ (.slice none 0 0)).heap[H]? = some (.cells #[.int .i64 0, .int .i64 0, .slice none 0 0, .slice none 0 0, .slice none 0 0, .slice none 0 0, .slice none 0 0] 28 (0, 0)) := heap_setN (heap_setN (heap_setN (heap_setN (heap_setN (heap_setN (heap_setN (hR9) 0 _) 1 _) 2 _) 3 _) 4 _) 5 _) 6 _
              have FF := (((((((Fr.refl [H] u).setCell ⟨H, 0, none⟩ (by simp) (.int .i64 0)).setCell ⟨H, 1, none⟩ (by simp) (.int .i64 0)).setCell ⟨H, 2, none⟩ (by simp) (.slice none 0 0)).setCell ⟨H, 3, none⟩ (by simp) (.slice none 0 0)).setCell ⟨H, 4, none⟩ (by simp) (.slice none 0 0)).setCell ⟨H, 5, none⟩ (by simp) (.slice none 0 0)).setCell ⟨H, 6, none⟩ (by simp) (.slice none 0 0)
              go_wp2_with fail
              clear y0 z0 y1 z1 y2 z2 y3 z3 y4 z4 y5 z5 y6 z6
              generalize (((((((u).setCell ⟨H, 0, none⟩ (.int .i64 0)).setCell ⟨H, 1, none⟩ (.int .i64 0)).setCell ⟨H, 2, none⟩ (.slice none 0 0)).setCell ⟨H, 3, none⟩ (.slice none 0 0)).setCell ⟨H, 4, none⟩ (.slice none 0 0)).setCell ⟨H, 5, none⟩ (.slice none 0 0)).setCell ⟨H, 6, none⟩ (.slice none 0 0) = X at *
              have y0 : X.cell? ⟨H, 0, none⟩ = some (.int .i64 0) := by rw [Lib.cell_of_heap hgF]; rfl
              have y1 : X.cell? ⟨H, 1, none⟩ = some (.int .i64 0) := by rw [Lib.cell_of_heap hgF]; rfl
              have y2 : X.cell? ⟨H, 2, none⟩ = some (.slice none 0 0) := by rw [Lib.cell_of_heap hgF]; rfl
              have y3 : X.cell? ⟨H, 3, none⟩ = some (.slice none 0 0) := by rw [Lib.cell_of_heap hgF]; rfl
              have y4 : X.cell? ⟨H, 4, none⟩ = some (.slice none 0 0) := by rw [Lib.cell_of_heap hgF]; rfl
              have y5 : X.cell? ⟨H, 5, none⟩ = some (.slice none 0 0) := by rw [Lib.cell_of_heap hgF]; rfl
              have y6 : X.cell? ⟨H, 6, none⟩ = some (.slice none 0 0) := by rw [Lib.cell_of_heap hgF]; rfl
              refine bodyPost_ret (v := .tuple #[.agg #[.int .i64 0, .int .i64 0, .slice none 0 0, .slice none 0 0, .slice none 0 0, .slice none 0 0, .slice none 0 0], .bool false]) (by simp [results, Tryz.results12, go_sem, y0, y1, y2, y3, y4, y5, y6]) rfl ?_
              rw [HX.out]
              exact ⟨rfl, by rw [HH.out]; exact (hB9).trans (FF.below (by have := lt_of_block hR9; omega) (by simp))⟩
            | some l =>
              have HX0 := Lib.hid (show R = if l = [] then some ⟨(n0 : Int), (n1 : Int), t0, t1, t2, t3, t4⟩ else none from HQ.out)
              clear HQ
              have hR9 := r.hR
              have hB9 := r.below
              have x0 : u.cell? ⟨I, 0, none⟩ = some (.pointer (some ⟨b, 0, none⟩)) := r.cI
              obtain ⟨kx, ex, hgb, hkx, g1, _⟩ := r.rd
              obtain ⟨_, hlx⟩ := g1 _ rfl
              have c1 : u.cell? ⟨b, 1, none⟩ = some (.int .i64 (kx : Int)) := by rw [Lib.cell_of_heap hgb]; rfl
              have hp9 := r.hP
              clear g1 hgb
              dsimp only [Option.isSome]
              by_cases hl0 : kx = s.size
              · have HX := Lib.hid (show R = some ⟨(n0 : Int), (n1 : Int), t0, t1, t2, t3, t4⟩ from by rw [HX0.out, if_pos (by rw [hlx, hl0]; exact List.drop_eq_nil_of_le (by simp))])
                subst hl0
                have t9 : ((s.size : Int) != (s.size : Int)) = false := by simp
                clear HX0 hlx
                have d0 : u.cell? ⟨P, 0, none⟩ = some (.int .i64 (n0 : Int)) := by rw [Lib.cell_of_heap hp9]; rfl
                have d1 : u.cell? ⟨P, 1, none⟩ = some (.int .i64 (n1 : Int)) := by rw [Lib.cell_of_heap hp9]; rfl
                have d2 : u.cell? ⟨P, 2, none⟩ = some (.slice pa0 pl0 pc0) := by rw [Lib.cell_of_heap hp9]; rfl
                have d3 : u.cell? ⟨P, 3, none⟩ = some (.slice pa1 pl1 pc1) := by rw [Lib.cell_of_heap hp9]; rfl
                have d4 : u.cell? ⟨P, 4, none⟩ = some (.slice pa2 pl2 pc2) := by rw [Lib.cell_of_heap hp9]; rfl
                have d5 : u.cell? ⟨P, 5, none⟩ = some (.slice pa3 pl3 pc3) := by rw [Lib.cell_of_heap hp9]; rfl
                have d6 : u.cell? ⟨P, 6, none⟩ = some (.slice pa4 pl4 pc4) := by rw [Lib.cell_of_heap hp9]; rfl
                have y0 : u.cell? ⟨H, 0, none⟩ = some (.int .i64 0) := by rw [Lib.cell_of_heap hR9]; rfl
                have z0 : u.frozen? ⟨H, 0, none⟩ = false := Lib.frozen_of_heap hR9 0
                have y1 : u.cell? ⟨H, 1, none⟩ = some (.int .i64 0) := by rw [Lib.cell_of_heap hR9]; rfl
                have z1 : u.frozen? ⟨H, 1, none⟩ = false := Lib.frozen_of_heap hR9 1
                have y2 : u.cell? ⟨H, 2, none⟩ = some (.slice none 0 0) := by rw [Lib.cell_of_heap hR9]; rfl
                have z2 : u.frozen? ⟨H, 2, none⟩ = false := Lib.frozen_of_heap hR9 2
                have y3 : u.cell? ⟨H, 3, none⟩ = some (.slice none 0 0) := by rw [Lib.cell_of_heap hR9]; rfl
                have z3 : u.frozen? ⟨H, 3, none⟩ = false := Lib.frozen_of_heap hR9 3
                have y4 : u.cell? ⟨H, 4, none⟩ = some (.slice none 0 0) := by rw [Lib.cell_of_heap hR9]; rfl
                have z4 : u.frozen? ⟨H, 4, none⟩ = false := Lib.frozen_of_heap hR9 4
                have y5 : u.cell? ⟨H, 5, none⟩ = some (.slice none 0 0) := by rw [Lib.cell_of_heap hR9]; rfl
                have z5 : u.frozen? ⟨H, 5, none⟩ = false := Lib.frozen_of_heap hR9 5
                have y6 : u.cell? ⟨H, 6, none⟩ = some (.slice none 0 0) := by rw [Lib.cell_of_heap hR9]; rfl
                have z6 : u.frozen? ⟨H, 6, none⟩ = false := Lib.frozen_of_heap hR9 6
                have hgF : ((((((((u).setCell ⟨H, 0, none⟩ (.int .i64 (n0 : Int))).setCell ⟨H, 1, none⟩ (.int .i64 (n1 : Int))).setCell ⟨H, 2, none⟩ (.slice pa0 pl0 pc0)).setCell ⟨H, 3, none⟩ (.slice pa1 pl1 pc1)).setCell ⟨H, 4, none⟩ (.slice pa2 pl2 pc2)).setCell ⟨H, 5, none⟩ (.slice pa3 pl3 pc3)).setCell ⟨H, 6, none⟩ (.slice pa4 pl4 pc4)).heap[H]? = some (.cells #[.int .i64 (n0 : Int), .int .i64 (n1 : Int), .slice pa0 pl0 pc0, .slice pa1 pl1 pc1, .slice pa2 pl2 pc2, .slice pa3 pl3 pc3, .slice pa4 pl4 pc4] 28 (0, 0)) := heap_setN (heap_setN (heap_setN (heap_setN (heap_setN (heap_setN (heap_setN (hR9) 0 _) 1 _) 2 _) 3 _) 4 _) 5 _) 6 _
                have FF := (((((((Fr.refl [H] u).setCell ⟨H, 0, none⟩ (by simp) (.int .i64 (n0 : Int))).setCell ⟨H, 1, none⟩ (by simp) (.int .i64 (n1 : Int))).setCell ⟨H, 2, none⟩ (by simp) (.slice pa0 pl0 pc0)).setCell ⟨H, 3, none⟩ (by simp) (.slice pa1 pl1 pc1)).setCell ⟨H, 4, none⟩ (by simp) (.slice pa2 pl2 pc2)).setCell ⟨H, 5, none⟩ (by simp) (.slice pa3 pl3 pc3)).setCell ⟨H, 6, none⟩ (by simp) (.slice pa4 pl4 pc4)
                go_wp2_with fail
                clear y0 z0 y1 z1 y2 z2 y3 z3 y4 z4 y5 z5 y6 z6
                generalize (((((((u).setCell ⟨H, 0, none⟩ (.int .i64 (n0 : Int))).setCell ⟨H, 1, none⟩ (.int .i64 (n1 : Int))).setCell ⟨H, 2, none⟩ (.slice pa0 pl0 pc0)).setCell ⟨H, 3, none⟩ (.slice pa1 pl1 pc1)).setCell ⟨H, 4, none⟩ (.slice pa2 pl2 pc2)).setCell ⟨H, 5, none⟩ (.slice pa3 pl3 pc3)).setCell ⟨H, 6, none⟩ (.slice pa4 pl4 pc4) = X at *
                have y0 : X.cell? ⟨H, 0, none⟩ = some (.int .i64 (n0 : Int)) := by rw [Lib.cell_of_heap hgF]; rfl
                have y1 : X.cell? ⟨H, 1, none⟩ = some (.int .i64 (n1 : Int)) := by rw [Lib.cell_of_heap hgF]; rfl
                have y2 : X.cell? ⟨H, 2, none⟩ = some (.slice pa0 pl0 pc0) := by rw [Lib.cell_of_heap hgF]; rfl
                have y3 : X.cell? ⟨H, 3, none⟩ = some (.slice pa1 pl1 pc1) := by rw [Lib.cell_of_heap hgF]; rfl
                have y4 : X.cell? ⟨H, 4, none⟩ = some (.slice pa2 pl2 pc2) := by rw [Lib.cell_of_heap hgF]; rfl
                have y5 : X.cell? ⟨H, 5, none⟩ = some (.slice pa3 pl3 pc3) := by rw [Lib.cell_of_heap hgF]; rfl
                have y6 : X.cell? ⟨H, 6, none⟩ = some (.slice pa4 pl4 pc4) := by rw [Lib.cell_of_heap hgF]; rfl
                refine bodyPost_ret (v := .tuple #[.agg #[.int .i64 (n0 : Int), .int .i64 (n1 : Int), .slice pa0 pl0 pc0, .slice pa1 pl1 pc1, .slice pa2 pl2 pc2, .slice pa3 pl3 pc3, .slice pa4 pl4 pc4], .bool true]) (by simp [results, Tryz.results12, go_sem, y0, y1, y2, y3, y4, y5, y6]) rfl ?_
                rw [HX.out]
                have hk := fun (g : Nat) (hS : P < g) (hl : g < u.heap.size) => (show w.heap.size ≤ g ∧ X.heap[g]? = u.heap[g]? from ⟨by have := HH.out; have := r.bH; have := r.bP; omega, FF.block g hl (by have := r.bH; have := r.bP; simp; omega)⟩)
                exact ⟨_, rfl, ⟨_, _, _, _, _, rfl, a0.kept FF.size hk, a1.kept FF.size hk, a2.kept FF.size hk, a3.kept FF.size hk, a4.kept FF.size hk⟩, by rw [HH.out]; exact hB9.trans (FF.below (by have := lt_of_block hR9; omega) (by simp))⟩
              · have HX := Lib.hid (show R = none from by rw [HX0.out, if_neg (by rw [hlx]; intro h9; have := congrArg List.length h9; rw [List.length_drop, show s.data.toList.length = s.size by simp] at this; simp at this; omega)])
                have t9 : ((kx : Int) != (s.size : Int)) = true := by rw [bne_iff_ne]; omega
                have t9' : kx ≠ s.size := hl0
                clear HX0 hlx a0 a1 a2 a3 a4
                have y0 : u.cell? ⟨H, 0, none⟩ = some (.int .i64 0) := by rw [Lib.cell_of_heap hR9]; rfl
                have z0 : u.frozen? ⟨H, 0, none⟩ = false := Lib.frozen_of_heap hR9 0
                have y1 : u.cell? ⟨H, 1, none⟩ = some (.int .i64 0) := by rw [Lib.cell_of_heap hR9]; rfl
                have z1 : u.frozen? ⟨H, 1, none⟩ = false := Lib.frozen_of_heap hR9 1
                have y2 : u.cell? ⟨H, 2, none⟩ = some (.slice none 0 0) := by rw [Lib.cell_of_heap hR9]; rfl
                have z2 : u.frozen? ⟨H, 2, none⟩ = false := Lib.frozen_of_heap hR9 2
                have y3 : u.cell? ⟨H, 3, none⟩ = some (.slice none 0 0) := by rw [Lib.cell_of_heap hR9]; rfl
                have z3 : u.frozen? ⟨H, 3, none⟩ = false := Lib.frozen_of_heap hR9 3
                have y4 : u.cell? ⟨H, 4, none⟩ = some (.slice none 0 0) := by rw [Lib.cell_of_heap hR9]; rfl
                have z4 : u.frozen? ⟨H, 4, none⟩ = false := Lib.frozen_of_heap hR9 4
                have y5 : u.cell? ⟨H, 5, none⟩ = some (.slice none 0 0) := by rw [Lib.cell_of_heap hR9]; rfl
                have z5 : u.frozen? ⟨H, 5, none⟩ = false := Lib.frozen_of_heap hR9 5
                have y6 : u.cell? ⟨H, 6, none⟩ = some (.slice none 0 0) := by rw [Lib.cell_of_heap hR9]; rfl
                have z6 : u.frozen? ⟨H, 6, none⟩ = false := Lib.frozen_of_heap hR9 6
                have hgF : ((((((((u).setCell ⟨H, 0, none⟩ (.int .i64 0)).setCell ⟨H, 1, none⟩ (.int .i64 0)).setCell ⟨H, 2, none⟩ (.slice none 0 0)).setCell ⟨H, 3, none⟩ (.slice none 0 0)).setCell ⟨H, 4, none⟩ (.slice none 0 0)).setCell ⟨H, 5, none⟩ (.slice none 0 0)).setCell ⟨H, 6, none⟩ (.slice none 0 0)).heap[H]? = some (.cells #[.int .i64 0, .int .i64 0, .slice none 0 0, .slice none 0 0, .slice none 0 0, .slice none 0 0, .slice none 0 0] 28 (0, 0)) := heap_setN (heap_setN (heap_setN (heap_setN (heap_setN (heap_setN (heap_setN (hR9) 0 _) 1 _) 2 _) 3 _) 4 _) 5 _) 6 _
                have FF := (((((((Fr.refl [H] u).setCell ⟨H, 0, none⟩ (by simp) (.int .i64 0)).setCell ⟨H, 1, none⟩ (by simp) (.int .i64 0)).setCell ⟨H, 2, none⟩ (by simp) (.slice none 0 0)).setCell ⟨H, 3, none⟩ (by simp) (.slice none 0 0)).setCell ⟨H, 4, none⟩ (by simp) (.slice none 0 0)).setCell ⟨H, 5, none⟩ (by simp) (.slice none 0 0)).setCell ⟨H, 6, none⟩ (by simp) (.slice none 0 0)
                go_wp2_with fail
                clear y0 z0 y1 z1 y2 z2 y3 z3 y4 z4 y5 z5 y6 z6
                generalize (((((((u).setCell ⟨H, 0, none⟩ (.int .i64 0)).setCell ⟨H, 1, none⟩ (.int .i64 0)).setCell ⟨H, 2, none⟩ (.slice none 0 0)).setCell ⟨H, 3, none⟩ (.slice none 0 0)).setCell ⟨H, 4, none⟩ (.slice none 0 0)).setCell ⟨H, 5, none⟩ (.slice none 0 0)).setCell ⟨H, 6, none⟩ (.slice none 0 0) = X at *
                have y0 : X.cell? ⟨H, 0, none⟩ = some (.int .i64 0) := by rw [Lib.cell_of_heap hgF]; rfl
                have y1 : X.cell? ⟨H, 1, none⟩ = some (.int .i64 0) := by rw [Lib.cell_of_heap hgF]; rfl
                have y2 : X.cell? ⟨H, 2, none⟩ = some (.slice none 0 0) := by rw [Lib.cell_of_heap hgF]; rfl
                have y3 : X.cell? ⟨H, 3, none⟩ = some (.slice none 0 0) := by rw [Lib.cell_of_heap hgF]; rfl
                have y4 : X.cell? ⟨H, 4, none⟩ = some (.slice none 0 0) := by rw [Lib.cell_of_heap hgF]; rfl
                have y5 : X.cell? ⟨H, 5, none⟩ = some (.slice none 0 0) := by rw [Lib.cell_of_heap hgF]; rfl
                have y6 : X.cell? ⟨H, 6, none⟩ = some (.slice none 0 0) := by rw [Lib.cell_of_heap hgF]; rfl
                refine bodyPost_ret (v := .tuple #[.agg #[.int .i64 0, .int .i64 0, .slice none 0 0, .slice none 0 0, .slice none 0 0, .slice none 0 0, .slice none 0 0], .bool false]) (by simp [results, Tryz.results12, go_sem, y0, y1, y2, y3, y4, y5, y6]) rfl ?_
                rw [HX.out]
                exact ⟨rfl, by rw [HH.out]; exact (hB9).trans (FF.below (by have := lt_of_block hR9; omega) (by simp))⟩
end Go.Proofs.YtnaamiecljinnaaGreat
