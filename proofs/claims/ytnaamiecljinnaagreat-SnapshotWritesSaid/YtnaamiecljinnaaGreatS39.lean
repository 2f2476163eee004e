/-
  Z5, Sa, Gl in one text.
-/
import Derived.ArgAppend
import Derived.Below
import Derived.BigQuiet
import Derived.BigRegion
import Derived.Deep.AppendLies
import Derived.Deep.Cut
import Derived.Deep.CutBlock
import Derived.Deep.DeepCutAuto
import Derived.Deep.QuietTactic
import Derived.Deep.RegionHeld3
import Derived.Deep.RegionLaw
import Derived.Deep.RegionWith
import Derived.Deep.Upon
import Derived.Defers
import Derived.Handy
import Derived.IntWalk
import Derived.Laws.Bits64b
import Derived.Laws.FloatBits
import Derived.Laws.OwnMore
import Derived.Lib.AtoiAll
import Derived.Lib.Builder
import Derived.Lib.Bytes
import Derived.Lib.ConvBytes
import Derived.Lib.FrozenHead2
import Derived.Lib.Hide
import Derived.Lib.IndexMore
import Derived.Lib.ItoaNum
import Derived.Lib.MinMax
import Derived.Lib.OthersKept
import Derived.Lib.ParseIntB
import Derived.Lib.UnsafeStr
import Derived.LoopTactic
import Derived.OneCell
import Derived.OwnWalk
import Derived.Recover
import Derived.RegionTactic
import Derived.Shelf.Abstract
import Derived.StillTailTactics
import Derived.Tactics
import Derived.Tactics2
import Derived.Test.YtnaamiecljinnaaGreatChecked
import Derived.WalkKit
import Derived.WalkLawsBesides
import Derived.WalkSpells
import Ieee.Arith
import Derived.Test.YtnaamiecljinnaaGreatS00
import Derived.Test.YtnaamiecljinnaaGreatS02
import Derived.Test.YtnaamiecljinnaaGreatS08
import Derived.Test.YtnaamiecljinnaaGreatS14
import Derived.Test.YtnaamiecljinnaaGreatS18
import Derived.Test.YtnaamiecljinnaaGreatS30
import Derived.Test.YtnaamiecljinnaaGreatS36
import Derived.Test.YtnaamiecljinnaaGreatS38
namespace Go.Proofs.YtnaamiecljinnaaGreat
section
open Go.RowKit
theorem SlIn.mk {S : Nat → Prop} {u : World} {d sz k m sc : Nat} {l : List It} {sp : Option Addr} (h : l.length ≤ 140737488355328 ∧ ∀ i, i < l.length → ∃ g off, sp = some ⟨g, off, none⟩ ∧ (S g ∧ g < u.heap.size) ∧ ∃ ds, ItIn S u d k m (l.getD i ([], [])) ds ∧ ∀ j, j < sz → u.cell? ⟨g, off + i * sz + j, none⟩ = ds[j]?) : SlIn S u d sz k m (.slice sp l.length sc) l := ⟨sp, sc, rfl, h⟩
/-- what Read leaves -/
def ReadP (w : World) (r : Option PartT) (e : Ending) (w' : World) : Prop :=
  match r with
  | some p => ∃ cs, e = .returned (.tuple #[.agg cs, .int .i64 0]) ∧ PartIn (fun g => w.heap.size ≤ g) w' 12 p cs ∧ Below w.heap.size w w'
  | none => e = .returned (.tuple #[.agg #[.int .i64 0, .int .i64 0, .slice none 0 0, .slice none 0 0, .slice none 0 0, .slice none 0 0, .slice none 0 0], .int .i64 5]) ∧ Below w.heap.size w w'
set_option maxRecDepth 100000 in
set_option maxHeartbeats 8000000 in
theorem Read_any (s : ByteArray) (hs : s.size ≤ 100000000) (w : World) : Calls Tryz.prog 10 #[.string s] w (ReadP w (partR s.data.toList)) := by
  have HP := Lib.hid (fun b w hb => rpart_any s hs b w hb)
  have hz1 : (w.alloc (.cells #[.int .i64 0, .int .i64 0, .slice none 0 0, .slice none 0 0, .slice none 0 0, .slice none 0 0, .slice none 0 0] 28)).heap.size = w.heap.size + 1 := by simp
  have hz2 : ((w.alloc (.cells #[.int .i64 0, .int .i64 0, .slice none 0 0, .slice none 0 0, .slice none 0 0, .slice none 0 0, .slice none 0 0] 28)).alloc (.cells #[.int .i64 0] 31)).heap.size = w.heap.size + 1 + 1 := by simp
  have h0 := heap_alloc_new w (.cells #[.int .i64 0, .int .i64 0, .slice none 0 0, .slice none 0 0, .slice none 0 0, .slice none 0 0, .slice none 0 0] 28)
  have f0 := (Fr.refl [] w).alloc (.cells #[.int .i64 0, .int .i64 0, .slice none 0 0, .slice none 0 0, .slice none 0 0, .slice none 0 0, .slice none 0 0] 28)
  generalize hW1 : w.alloc (.cells #[.int .i64 0, .int .i64 0, .slice none 0 0, .slice none 0 0, .slice none 0 0, .slice none 0 0, .slice none 0 0] 28) = W1 at *
  have h1 := heap_alloc_new W1 (.cells #[.int .i64 0] 31)
  have k1 := (Fr.refl [] W1).alloc (.cells #[.int .i64 0] 31)
  generalize hW2 : W1.alloc (.cells #[.int .i64 0] 31) = W2 at *
  have h2 := heap_alloc_new W2 (.cells #[.string s, .int .i64 0] 86)
  have k2 := (Fr.refl [] W2).alloc (.cells #[.string s, .int .i64 0] 86)
  have hz3 : (W2.alloc (.cells #[.string s, .int .i64 0] 86)).heap.size = W2.heap.size + 1 := by simp
  have g0 := (k1.trans k2).at h0 (by simp)
  have g1 := k2.at h1 (by simp)
  have hbF := (f0.trans k1).trans k2
  rw [hz1] at g1
  rw [hz2] at h2 hz3
  have HW1 := Lib.hid hW1; have HW2 := Lib.hid hW2
  clear f0 k1 k2 h0 h1 hW1 hW2 hz1 hz2
  have HR : SrB (w.heap.size + 1 + 1) s 0 (W2.alloc (.cells #[.string s, .int .i64 0] 86)) := h2
  have HPP := Lib.hid (HP.out _ _ HR)
  clear HP
  generalize partR s.data.toList = R at *
  cases R with
  | none =>
    go_enter_defers Tryz.func10, Tryz.ntmps10
    go_wp2_with fail
    rw [HW1.out, HW2.out]
    refine (HPP.out).mono ?_; rintro e w3 ⟨rfl, hf3⟩
    have b3 := hf3.at g0 (by simp <;> omega)
    have e3 := hf3.at g1 (by simp <;> omega)
    have c0 : w3.cell? ⟨w.heap.size + 1, 0, none⟩ = some (.int .i64 0) := by rw [Lib.cell_of_heap e3]; rfl
    have f0 : w3.frozen? ⟨w.heap.size + 1, 0, none⟩ = false := Lib.frozen_of_heap e3 0
    have hs3 : w.heap.size + 1 + 1 < w3.heap.size := by have := hf3.size; rw [hz3] at this; omega
    go_wp2_with fail
    have hall := (hbF.mono (m := [w.heap.size + 1 + 1]) (by simp)).trans hf3
    have hbel : Below w.heap.size w w3 := hall.below (Nat.le_refl _) (by simp; omega)
    refine leaves_cons (f := 17) (args := #[.pointer (some ⟨w.heap.size + 1, 0, none⟩)]) (by simp) (by simp [go_sem]) ?_
    refine (caught_up ⟨w.heap.size + 1, 0, none⟩ 5 0 _ c0 f0).mono ?_
    rintro e u' w'' ⟨rfl, rfl, rfl⟩
    have hc2 : (w3.setCell ⟨w.heap.size + 1, 0, none⟩ (.int .i64 5)).cell? ⟨w.heap.size + 1, 0, none⟩ = some (.int .i64 5) := World.cell?_setCell_same _ _ _ c0
    have hbX : (w3.setCell ⟨w.heap.size + 1, 0, none⟩ (.int .i64 5)).heap[w.heap.size]? = some (.cells #[.int .i64 0, .int .i64 0, .slice none 0 0, .slice none 0 0, .slice none 0 0, .slice none 0 0, .slice none 0 0] 28 (0, 0)) := (Below.heap_setCell _ _ _ _ (by simp)).trans b3
    have hfin : Below w.heap.size w (w3.setCell ⟨w.heap.size + 1, 0, none⟩ (.int .i64 5)) := hbel.setCell (p := ⟨w.heap.size + 1, 0, none⟩) (by simp) _
    generalize w3.setCell ⟨w.heap.size + 1, 0, none⟩ (.int .i64 5) = X at *
    have y0 : X.cell? ⟨w.heap.size, 0, none⟩ = some (.int .i64 0) := by rw [Lib.cell_of_heap hbX]; rfl
    have y1 : X.cell? ⟨w.heap.size, 1, none⟩ = some (.int .i64 0) := by rw [Lib.cell_of_heap hbX]; rfl
    have y2 : X.cell? ⟨w.heap.size, 2, none⟩ = some (.slice none 0 0) := by rw [Lib.cell_of_heap hbX]; rfl
    have y3 : X.cell? ⟨w.heap.size, 3, none⟩ = some (.slice none 0 0) := by rw [Lib.cell_of_heap hbX]; rfl
    have y4 : X.cell? ⟨w.heap.size, 4, none⟩ = some (.slice none 0 0) := by rw [Lib.cell_of_heap hbX]; rfl
    have y5 : X.cell? ⟨w.heap.size, 5, none⟩ = some (.slice none 0 0) := by rw [Lib.cell_of_heap hbX]; rfl
    have y6 : X.cell? ⟨w.heap.size, 6, none⟩ = some (.slice none 0 0) := by rw [Lib.cell_of_heap hbX]; rfl
    simp [Leaves, settle, results, Tryz.results10, go_sem, y0, y1, y2, y3, y4, y5, y6, hc2]
    exact ⟨rfl, hfin⟩
  | some p =>
    go_enter_defers Tryz.func10, Tryz.ntmps10
    go_wp2_with fail
    rw [HW1.out, HW2.out]
    refine (HPP.out).mono ?_; intro e w3 h9
    unfold PartPost at h9
    dsimp only at h9
    obtain ⟨cs, rfl, hpi, hf3⟩ := h9
    rw [hz3] at hpi
    obtain ⟨_, _, _, _, _, rfl, ⟨s0, c0', rfl, hi0⟩, ⟨s1, c1', rfl, hi1⟩, ⟨s2, c2', rfl, hi2⟩, ⟨s3, c3', rfl, hi3⟩, ⟨s4, c4', rfl, hi4⟩⟩ := hpi
    have q0 := SlIn.mk (sc := c0') hi0; have q1 := SlIn.mk (sc := c1') hi1; have q2 := SlIn.mk (sc := c2') hi2; have q3 := SlIn.mk (sc := c3') hi3; have q4 := SlIn.mk (sc := c4') hi4
    clear hi0 hi1 hi2 hi3 hi4
    generalize p.waits.length = n0 at *
    generalize p.spots.length = n1 at *
    generalize p.puts.length = n2 at *
    generalize p.letters.length = n3 at *
    generalize p.audits.length = n4 at *
    have b3 := hf3.at g0 (by simp <;> omega)
    have e3 := hf3.at g1 (by simp <;> omega)
    have b4 : (w3.alloc (.cells #[.int .i64 p.next, .int .i64 p.begun, .slice s0 n0 c0', .slice s1 n1 c1', .slice s2 n2 c2', .slice s3 n3 c3', .slice s4 n4 c4'] 28)).heap[w.heap.size]? = some (.cells #[.int .i64 0, .int .i64 0, .slice none 0 0, .slice none 0 0, .slice none 0 0, .slice none 0 0, .slice none 0 0] 28 (0, 0)) := (Lib.alloc_old w3 _ _ (lt_of_block b3)).trans b3
    have e4 : (w3.alloc (.cells #[.int .i64 p.next, .int .i64 p.begun, .slice s0 n0 c0', .slice s1 n1 c1', .slice s2 n2 c2', .slice s3 n3 c3', .slice s4 n4 c4'] 28)).heap[w.heap.size + 1]? = some (.cells #[.int .i64 0] 31 (0, 0)) := (Lib.alloc_old w3 _ _ (lt_of_block e3)).trans e3
    have hn4 : (w3.alloc (.cells #[.int .i64 p.next, .int .i64 p.begun, .slice s0 n0 c0', .slice s1 n1 c1', .slice s2 n2 c2', .slice s3 n3 c3', .slice s4 n4 c4'] 28)).heap[w3.heap.size]? = some (.cells #[.int .i64 p.next, .int .i64 p.begun, .slice s0 n0 c0', .slice s1 n1 c1', .slice s2 n2 c2', .slice s3 n3 c3', .slice s4 n4 c4'] 28 (0, 0)) := heap_alloc_new w3 _
    have F4 := (Fr.refl [] w3).alloc (.cells #[.int .i64 p.next, .int .i64 p.begun, .slice s0 n0 c0', .slice s1 n1 c1', .slice s2 n2 c2', .slice s3 n3 c3', .slice s4 n4 c4'] 28)
    have hs3 : w.heap.size + 1 + 1 < w3.heap.size := by have := hf3.size; rw [hz3] at this; omega
    have k0 : (w3.alloc (.cells #[.int .i64 p.next, .int .i64 p.begun, .slice s0 n0 c0', .slice s1 n1 c1', .slice s2 n2 c2', .slice s3 n3 c3', .slice s4 n4 c4'] 28)).cell? ⟨w.heap.size, 0, none⟩ = some (.int .i64 0) := by rw [Lib.cell_of_heap b4]; rfl
    have z0 : (w3.alloc (.cells #[.int .i64 p.next, .int .i64 p.begun, .slice s0 n0 c0', .slice s1 n1 c1', .slice s2 n2 c2', .slice s3 n3 c3', .slice s4 n4 c4'] 28)).frozen? ⟨w.heap.size, 0, none⟩ = false := Lib.frozen_of_heap b4 0
    have k1 : (w3.alloc (.cells #[.int .i64 p.next, .int .i64 p.begun, .slice s0 n0 c0', .slice s1 n1 c1', .slice s2 n2 c2', .slice s3 n3 c3', .slice s4 n4 c4'] 28)).cell? ⟨w.heap.size, 1, none⟩ = some (.int .i64 0) := by rw [Lib.cell_of_heap b4]; rfl
    have z1 : (w3.alloc (.cells #[.int .i64 p.next, .int .i64 p.begun, .slice s0 n0 c0', .slice s1 n1 c1', .slice s2 n2 c2', .slice s3 n3 c3', .slice s4 n4 c4'] 28)).frozen? ⟨w.heap.size, 1, none⟩ = false := Lib.frozen_of_heap b4 1
    have k2 : (w3.alloc (.cells #[.int .i64 p.next, .int .i64 p.begun, .slice s0 n0 c0', .slice s1 n1 c1', .slice s2 n2 c2', .slice s3 n3 c3', .slice s4 n4 c4'] 28)).cell? ⟨w.heap.size, 2, none⟩ = some (.slice none 0 0) := by rw [Lib.cell_of_heap b4]; rfl
    have z2 : (w3.alloc (.cells #[.int .i64 p.next, .int .i64 p.begun, .slice s0 n0 c0', .slice s1 n1 c1', .slice s2 n2 c2', .slice s3 n3 c3', .slice s4 n4 c4'] 28)).frozen? ⟨w.heap.size, 2, none⟩ = false := Lib.frozen_of_heap b4 2
    have k3 : (w3.alloc (.cells #[.int .i64 p.next, .int .i64 p.begun, .slice s0 n0 c0', .slice s1 n1 c1', .slice s2 n2 c2', .slice s3 n3 c3', .slice s4 n4 c4'] 28)).cell? ⟨w.heap.size, 3, none⟩ = some (.slice none 0 0) := by rw [Lib.cell_of_heap b4]; rfl
    have z3 : (w3.alloc (.cells #[.int .i64 p.next, .int .i64 p.begun, .slice s0 n0 c0', .slice s1 n1 c1', .slice s2 n2 c2', .slice s3 n3 c3', .slice s4 n4 c4'] 28)).frozen? ⟨w.heap.size, 3, none⟩ = false := Lib.frozen_of_heap b4 3
    have k4 : (w3.alloc (.cells #[.int .i64 p.next, .int .i64 p.begun, .slice s0 n0 c0', .slice s1 n1 c1', .slice s2 n2 c2', .slice s3 n3 c3', .slice s4 n4 c4'] 28)).cell? ⟨w.heap.size, 4, none⟩ = some (.slice none 0 0) := by rw [Lib.cell_of_heap b4]; rfl
    have z4 : (w3.alloc (.cells #[.int .i64 p.next, .int .i64 p.begun, .slice s0 n0 c0', .slice s1 n1 c1', .slice s2 n2 c2', .slice s3 n3 c3', .slice s4 n4 c4'] 28)).frozen? ⟨w.heap.size, 4, none⟩ = false := Lib.frozen_of_heap b4 4
    have k5 : (w3.alloc (.cells #[.int .i64 p.next, .int .i64 p.begun, .slice s0 n0 c0', .slice s1 n1 c1', .slice s2 n2 c2', .slice s3 n3 c3', .slice s4 n4 c4'] 28)).cell? ⟨w.heap.size, 5, none⟩ = some (.slice none 0 0) := by rw [Lib.cell_of_heap b4]; rfl
    have z5 : (w3.alloc (.cells #[.int .i64 p.next, .int .i64 p.begun, .slice s0 n0 c0', .slice s1 n1 c1', .slice s2 n2 c2', .slice s3 n3 c3', .slice s4 n4 c4'] 28)).frozen? ⟨w.heap.size, 5, none⟩ = false := Lib.frozen_of_heap b4 5
    have k6 : (w3.alloc (.cells #[.int .i64 p.next, .int .i64 p.begun, .slice s0 n0 c0', .slice s1 n1 c1', .slice s2 n2 c2', .slice s3 n3 c3', .slice s4 n4 c4'] 28)).cell? ⟨w.heap.size, 6, none⟩ = some (.slice none 0 0) := by rw [Lib.cell_of_heap b4]; rfl
    have z6 : (w3.alloc (.cells #[.int .i64 p.next, .int .i64 p.begun, .slice s0 n0 c0', .slice s1 n1 c1', .slice s2 n2 c2', .slice s3 n3 c3', .slice s4 n4 c4'] 28)).frozen? ⟨w.heap.size, 6, none⟩ = false := Lib.frozen_of_heap b4 6
    have ke : (w3.alloc (.cells #[.int .i64 p.next, .int .i64 p.begun, .slice s0 n0 c0', .slice s1 n1 c1', .slice s2 n2 c2', .slice s3 n3 c3', .slice s4 n4 c4'] 28)).cell? ⟨w.heap.size + 1, 0, none⟩ = some (.int .i64 0) := by rw [Lib.cell_of_heap e4]; rfl
    have ze : (w3.alloc (.cells #[.int .i64 p.next, .int .i64 p.begun, .slice s0 n0 c0', .slice s1 n1 c1', .slice s2 n2 c2', .slice s3 n3 c3', .slice s4 n4 c4'] 28)).frozen? ⟨w.heap.size + 1, 0, none⟩ = false := Lib.frozen_of_heap e4 0
    have d0 : (w3.alloc (.cells #[.int .i64 p.next, .int .i64 p.begun, .slice s0 n0 c0', .slice s1 n1 c1', .slice s2 n2 c2', .slice s3 n3 c3', .slice s4 n4 c4'] 28)).cell? ⟨w3.heap.size, 0, none⟩ = some (.int .i64 p.next) := by rw [Lib.cell_of_heap hn4]; rfl
    have d1 : (w3.alloc (.cells #[.int .i64 p.next, .int .i64 p.begun, .slice s0 n0 c0', .slice s1 n1 c1', .slice s2 n2 c2', .slice s3 n3 c3', .slice s4 n4 c4'] 28)).cell? ⟨w3.heap.size, 1, none⟩ = some (.int .i64 p.begun) := by rw [Lib.cell_of_heap hn4]; rfl
    have d2 : (w3.alloc (.cells #[.int .i64 p.next, .int .i64 p.begun, .slice s0 n0 c0', .slice s1 n1 c1', .slice s2 n2 c2', .slice s3 n3 c3', .slice s4 n4 c4'] 28)).cell? ⟨w3.heap.size, 2, none⟩ = some (.slice s0 n0 c0') := by rw [Lib.cell_of_heap hn4]; rfl
    have d3 : (w3.alloc (.cells #[.int .i64 p.next, .int .i64 p.begun, .slice s0 n0 c0', .slice s1 n1 c1', .slice s2 n2 c2', .slice s3 n3 c3', .slice s4 n4 c4'] 28)).cell? ⟨w3.heap.size, 3, none⟩ = some (.slice s1 n1 c1') := by rw [Lib.cell_of_heap hn4]; rfl
    have d4 : (w3.alloc (.cells #[.int .i64 p.next, .int .i64 p.begun, .slice s0 n0 c0', .slice s1 n1 c1', .slice s2 n2 c2', .slice s3 n3 c3', .slice s4 n4 c4'] 28)).cell? ⟨w3.heap.size, 4, none⟩ = some (.slice s2 n2 c2') := by rw [Lib.cell_of_heap hn4]; rfl
    have d5 : (w3.alloc (.cells #[.int .i64 p.next, .int .i64 p.begun, .slice s0 n0 c0', .slice s1 n1 c1', .slice s2 n2 c2', .slice s3 n3 c3', .slice s4 n4 c4'] 28)).cell? ⟨w3.heap.size, 5, none⟩ = some (.slice s3 n3 c3') := by rw [Lib.cell_of_heap hn4]; rfl
    have d6 : (w3.alloc (.cells #[.int .i64 p.next, .int .i64 p.begun, .slice s0 n0 c0', .slice s1 n1 c1', .slice s2 n2 c2', .slice s3 n3 c3', .slice s4 n4 c4'] 28)).cell? ⟨w3.heap.size, 6, none⟩ = some (.slice s4 n4 c4') := by rw [Lib.cell_of_heap hn4]; rfl
    go_wp2_with fail
    have hall := (hbF.mono (m := [w.heap.size + 1 + 1]) (by simp)).trans (hf3.trans (F4.mono (by simp)))
    have hk4 := fun (g : Nat) (hS : w.heap.size + 1 + 1 + 1 ≤ g) (hl : g < w3.heap.size) => (show w.heap.size + 1 + 1 + 1 ≤ g ∧ (w3.alloc (.cells #[.int .i64 p.next, .int .i64 p.begun, .slice s0 n0 c0', .slice s1 n1 c1', .slice s2 n2 c2', .slice s3 n3 c3', .slice s4 n4 c4'] 28)).heap[g]? = w3.heap[g]? from ⟨hS, F4.block g hl (by simp)⟩)
    have q0 := q0.kept F4.size hk4; have q1 := q1.kept F4.size hk4; have q2 := q2.kept F4.size hk4; have q3 := q3.kept F4.size hk4; have q4 := q4.kept F4.size hk4
    clear hk4 d0 k0 z0 d1 k1 z1 d2 k2 z2 d3 k3 z3 d4 k4 z4 d5 k5 z5 d6 k6 z6 ke ze hn4 F4
    generalize (w3.alloc (.cells #[.int .i64 p.next, .int .i64 p.begun, .slice s0 n0 c0', .slice s1 n1 c1', .slice s2 n2 c2', .slice s3 n3 c3', .slice s4 n4 c4'] 28)) = W4 at *
    have hne : w.heap.size + 1 ≠ w.heap.size := by omega
    have hgF : (((((((((W4).setCell ⟨w.heap.size, 0, none⟩ (.int .i64 p.next)).setCell ⟨w.heap.size, 1, none⟩ (.int .i64 p.begun)).setCell ⟨w.heap.size, 2, none⟩ (.slice s0 n0 c0')).setCell ⟨w.heap.size, 3, none⟩ (.slice s1 n1 c1')).setCell ⟨w.heap.size, 4, none⟩ (.slice s2 n2 c2')).setCell ⟨w.heap.size, 5, none⟩ (.slice s3 n3 c3')).setCell ⟨w.heap.size, 6, none⟩ (.slice s4 n4 c4')).setCell ⟨w.heap.size + 1, 0, none⟩ (.int .i64 0)).heap[w.heap.size]? = some (.cells #[.int .i64 p.next, .int .i64 p.begun, .slice s0 n0 c0', .slice s1 n1 c1', .slice s2 n2 c2', .slice s3 n3 c3', .slice s4 n4 c4'] 28 (0, 0)) := (Below.heap_setCell _ _ _ _ hne.symm).trans (heap_setN (heap_setN (heap_setN (heap_setN (heap_setN (heap_setN (heap_setN b4 0 _) 1 _) 2 _) 3 _) 4 _) 5 _) 6 _)
    have heF : (((((((((W4).setCell ⟨w.heap.size, 0, none⟩ (.int .i64 p.next)).setCell ⟨w.heap.size, 1, none⟩ (.int .i64 p.begun)).setCell ⟨w.heap.size, 2, none⟩ (.slice s0 n0 c0')).setCell ⟨w.heap.size, 3, none⟩ (.slice s1 n1 c1')).setCell ⟨w.heap.size, 4, none⟩ (.slice s2 n2 c2')).setCell ⟨w.heap.size, 5, none⟩ (.slice s3 n3 c3')).setCell ⟨w.heap.size, 6, none⟩ (.slice s4 n4 c4')).setCell ⟨w.heap.size + 1, 0, none⟩ (.int .i64 0)).heap[w.heap.size + 1]? = some (.cells #[.int .i64 0] 31 (0, 0)) := heap_setN ((Below.heap_setCell _ _ _ _ hne).trans ((Below.heap_setCell _ _ _ _ hne).trans ((Below.heap_setCell _ _ _ _ hne).trans ((Below.heap_setCell _ _ _ _ hne).trans ((Below.heap_setCell _ _ _ _ hne).trans ((Below.heap_setCell _ _ _ _ hne).trans ((Below.heap_setCell _ _ _ _ hne).trans e4))))))) 0 _
    have FF := ((((((((Fr.refl [w.heap.size, w.heap.size + 1] W4).setCell ⟨w.heap.size, 0, none⟩ (by simp) (.int .i64 p.next)).setCell ⟨w.heap.size, 1, none⟩ (by simp) (.int .i64 p.begun)).setCell ⟨w.heap.size, 2, none⟩ (by simp) (.slice s0 n0 c0')).setCell ⟨w.heap.size, 3, none⟩ (by simp) (.slice s1 n1 c1')).setCell ⟨w.heap.size, 4, none⟩ (by simp) (.slice s2 n2 c2')).setCell ⟨w.heap.size, 5, none⟩ (by simp) (.slice s3 n3 c3')).setCell ⟨w.heap.size, 6, none⟩ (by simp) (.slice s4 n4 c4')).setCell ⟨w.heap.size + 1, 0, none⟩ (by simp) (.int .i64 0)
    generalize ((((((((W4).setCell ⟨w.heap.size, 0, none⟩ (.int .i64 p.next)).setCell ⟨w.heap.size, 1, none⟩ (.int .i64 p.begun)).setCell ⟨w.heap.size, 2, none⟩ (.slice s0 n0 c0')).setCell ⟨w.heap.size, 3, none⟩ (.slice s1 n1 c1')).setCell ⟨w.heap.size, 4, none⟩ (.slice s2 n2 c2')).setCell ⟨w.heap.size, 5, none⟩ (.slice s3 n3 c3')).setCell ⟨w.heap.size, 6, none⟩ (.slice s4 n4 c4')).setCell ⟨w.heap.size + 1, 0, none⟩ (.int .i64 0) = X at *
    have y0 : X.cell? ⟨w.heap.size, 0, none⟩ = some (.int .i64 p.next) := by rw [Lib.cell_of_heap hgF]; rfl
    have y1 : X.cell? ⟨w.heap.size, 1, none⟩ = some (.int .i64 p.begun) := by rw [Lib.cell_of_heap hgF]; rfl
    have y2 : X.cell? ⟨w.heap.size, 2, none⟩ = some (.slice s0 n0 c0') := by rw [Lib.cell_of_heap hgF]; rfl
    have y3 : X.cell? ⟨w.heap.size, 3, none⟩ = some (.slice s1 n1 c1') := by rw [Lib.cell_of_heap hgF]; rfl
    have y4 : X.cell? ⟨w.heap.size, 4, none⟩ = some (.slice s2 n2 c2') := by rw [Lib.cell_of_heap hgF]; rfl
    have y5 : X.cell? ⟨w.heap.size, 5, none⟩ = some (.slice s3 n3 c3') := by rw [Lib.cell_of_heap hgF]; rfl
    have y6 : X.cell? ⟨w.heap.size, 6, none⟩ = some (.slice s4 n4 c4') := by rw [Lib.cell_of_heap hgF]; rfl
    have ye : X.cell? ⟨w.heap.size + 1, 0, none⟩ = some (.int .i64 0) := by rw [Lib.cell_of_heap heF]; rfl
    have hff := (hall.mono (m := [w.heap.size + 1 + 1, w.heap.size, w.heap.size + 1]) (by simp)).trans (FF.mono (by simp))
    have hbel : Below w.heap.size w X := hff.below (Nat.le_refl _) (by simp; omega)
    have hkX := fun (g : Nat) (hS : w.heap.size + 1 + 1 + 1 ≤ g) (hl : g < W4.heap.size) => (show w.heap.size ≤ g ∧ X.heap[g]? = W4.heap[g]? from ⟨by omega, FF.block g hl (by simp; omega)⟩)
    have HQ := Lib.hid (show PartIn (fun g => w.heap.size ≤ g) X 12 p #[.int .i64 p.next, .int .i64 p.begun, .slice s0 n0 c0', .slice s1 n1 c1', .slice s2 n2 c2', .slice s3 n3 c3', .slice s4 n4 c4'] from ⟨_, _, _, _, _, rfl, q0.kept FF.size hkX, q1.kept FF.size hkX, q2.kept FF.size hkX, q3.kept FF.size hkX, q4.kept FF.size hkX⟩)
    clear q0 q1 q2 q3 q4 hkX
    refine leaves_cons (f := 17) (args := #[.pointer (some ⟨w.heap.size + 1, 0, none⟩)]) (by simp) (by simp [go_sem]) ?_
    refine (caught_idle ⟨w.heap.size + 1, 0, none⟩ _).mono ?_
    rintro e u' w'' ⟨rfl, rfl, rfl⟩
    simp [Leaves, settle, results, Tryz.results10, go_sem, y0, y1, y2, y3, y4, y5, y6, ye]
    exact ⟨_, rfl, HQ.out, hbel⟩
end
section
open Go.RowKit
theorem Ints.sl {B : Nat} {v : Value} {l : List Int} {w : World} (h : Ints B v l w) : IntSl w l v := by
  have hc := fun g => World.ownsRow.cells (g := g) h
  rcases h.2 with ⟨rfl, h0⟩ | ⟨g, cap, cur, rfl, _⟩
  · exact ⟨none, 0, by rw [h0], fun i hi => by omega⟩
  · refine ⟨_, cap, rfl, fun i hi => ⟨g, 0, rfl, ?_⟩⟩
    have := hc g rfl i (.int .i64 (l.getD i 0)) (by unfold intVs; rw [List.getElem?_map, List.getElem?_eq_getElem hi]; simp [List.getD, hi])
    rw [← this]
    congr 1
    unfold Addr.add
    split <;> simp_all
theorem Ints.below {B : Nat} {v : Value} {l : List Int} {w w' : World} (h : Ints B v l w) (hb : Below w.heap.size w w') : Ints B v l w' :=
  World.ownsRow.kept (row := none) h ⟨hb.os, hb.tape, hb.output, hb.size, fun k hk _ => hb.block k hk⟩ (Classical.em _)
theorem StrSl.of_block {w : World} {g : Nat} {l : List (List UInt8)} (N : Nat) (hN : l.length = N) (h : w.heap[g]? = some (.cells (l.map fun s => Value.string ⟨s.toArray⟩).toArray 9 (0, 0))) : StrSl w l (.slice (some ⟨g, 0, none⟩) N N) := by
  subst hN
  refine ⟨_, _, rfl, fun i hi => ⟨g, 0, rfl, lt_of_block h, ?_⟩⟩
  rw [Lib.cell_of_heap h]
  simp [List.getD, hi]
theorem IntSl.of_block {w : World} {g : Nat} {l : List Int} (N : Nat) (hN : l.length = N) (h : w.heap[g]? = some (.cells (l.map (Value.int .i64)).toArray 3 (0, 0))) : IntSl w l (.slice (some ⟨g, 0, none⟩) N N) := by
  subst hN
  refine ⟨_, _, rfl, fun i hi => ⟨g, 0, rfl, ?_⟩⟩
  rw [Lib.cell_of_heap h]
  simp [List.getD, hi]
set_option maxRecDepth 100000 in
set_option maxHeartbeats 8000000 in
theorem awake_any (w : World) : Calls Tryz.prog 6 #[] w (Gives (.bool true) w) := by
  have HB := Lib.hid (fun w => (show Calls Tryz.prog 8 #[.agg #[.int .i64 0, .int .i64 0, .slice none 0 0, .slice none 0 0, .slice none 0 0, .slice none 0 0, .slice none 0 0]] w (Gives (.tuple #[.string ⟨#[83, 78, 80, 49, 0, 0, 0, 0, 0, 0, 0]⟩, .int .i64 0]) w) from bytes_bare 0 0 [0, 0] (by decide) w))
  have HC := Lib.hid (fun w => (show Calls Tryz.prog 8 #[.agg #[.int .i64 (-1), .int .i64 0, .slice none 0 0, .slice none 0 0, .slice none 0 0, .slice none 0 0, .slice none 0 0]] w (Gives (.tuple #[.string ⟨#[]⟩, .int .i64 5]) w) from bytes_bad (-1) 0 (by decide) w))
  have HR := Lib.hid (fun w => (show Calls Tryz.prog 10 #[.string ⟨#[83, 78, 80, 49, 2, 1, 0, 1, 0, 1, 3, 1, 0, 0, 0]⟩] w fun e w' => ∃ x, e = .returned (.tuple #[x, .int .i64 0]) ∧ AwPart w.heap.size x w' ∧ Below w.heap.size w w' from read_aw w))
  have hdif : difs [[97], [98]] [[97], [99], [100]] 3 = [1, 2] := by decide
  have HD := Lib.hid (fun u v w hu hv => (differ_any [[97], [98]] [[97], [99], [100]] u v w hu hv (by decide) (by decide)).mono fun e w' (h : ∃ x, e = .returned x ∧ Ints w.heap.size x (difs [[97], [98]] [[97], [99], [100]] 3) w' ∧ Below w.heap.size w w') => (show ∃ x, e = .returned x ∧ Ints w.heap.size x [1, 2] w' ∧ Below w.heap.size w w' from by rw [← hdif]; exact h))
  clear hdif
  have HS := Lib.hid (fun u v w hu hv => rints_same [1, 2] u v w hu hv (by decide))
  go_enter Tryz.func6, Tryz.ntmps6
  go_wp2_with fail
  refine (HB.out _).mono ?_; rintro e w1 ⟨rfl, hb1⟩
  go_wp2_with fail
  refine (HC.out _).mono ?_; rintro e w2 ⟨rfl, hb2⟩
  have hB2 := hb1.trans (hb2.mono hb1.size)
  go_wp2_with fail
  refine (HR.out _).mono ?_; rintro e w3 ⟨x, rfl, ⟨g, cap, rfl, hg1, hg2, hg3⟩, hb3⟩
  have hB3 := hB2.trans (hb3.mono hB2.size)
  go_wp2_with fail
  have z1 : (w3.alloc (.cells #[.int .i64 2, .int .i64 1, .slice none 0 0, .slice (some ⟨g, 0, none⟩) 1 cap, .slice none 0 0, .slice none 0 0, .slice none 0 0] 28)).heap.size = w3.heap.size + 1 := by simp
  have z2 : ((w3.alloc (.cells #[.int .i64 2, .int .i64 1, .slice none 0 0, .slice (some ⟨g, 0, none⟩) 1 cap, .slice none 0 0, .slice none 0 0, .slice none 0 0] 28)).alloc (.cells #[.string ⟨#[97]⟩, .string ⟨#[98]⟩] 9)).heap.size = w3.heap.size + 1 + 1 := by simp
  have n2 := heap_alloc_new (w3.alloc (.cells #[.int .i64 2, .int .i64 1, .slice none 0 0, .slice (some ⟨g, 0, none⟩) 1 cap, .slice none 0 0, .slice none 0 0, .slice none 0 0] 28)) (.cells #[.string ⟨#[97]⟩, .string ⟨#[98]⟩] 9)
  have n3 := heap_alloc_new ((w3.alloc (.cells #[.int .i64 2, .int .i64 1, .slice none 0 0, .slice (some ⟨g, 0, none⟩) 1 cap, .slice none 0 0, .slice none 0 0, .slice none 0 0] 28)).alloc (.cells #[.string ⟨#[97]⟩, .string ⟨#[98]⟩] 9)) (.cells #[.string ⟨#[97]⟩, .string ⟨#[99]⟩, .string ⟨#[100]⟩] 9)
  rw [z1] at n2
  rw [z2] at n3
  have n2' : (((w3.alloc (.cells #[.int .i64 2, .int .i64 1, .slice none 0 0, .slice (some ⟨g, 0, none⟩) 1 cap, .slice none 0 0, .slice none 0 0, .slice none 0 0] 28)).alloc (.cells #[.string ⟨#[97]⟩, .string ⟨#[98]⟩] 9)).alloc (.cells #[.string ⟨#[97]⟩, .string ⟨#[99]⟩, .string ⟨#[100]⟩] 9)).heap[w3.heap.size + 1]? = some (.cells #[.string ⟨#[97]⟩, .string ⟨#[98]⟩] 9 (0, 0)) := (Lib.alloc_old _ _ _ (by rw [z2]; omega)).trans n2
  have hB6 : Below w.heap.size w (((w3.alloc (.cells #[.int .i64 2, .int .i64 1, .slice none 0 0, .slice (some ⟨g, 0, none⟩) 1 cap, .slice none 0 0, .slice none 0 0, .slice none 0 0] 28)).alloc (.cells #[.string ⟨#[97]⟩, .string ⟨#[98]⟩] 9)).alloc (.cells #[.string ⟨#[97]⟩, .string ⟨#[99]⟩, .string ⟨#[100]⟩] 9)) := ((hB3.alloc hB3.size _).alloc (by have := hB3.size; simp; omega) _).alloc (by have := hB3.size; simp; omega) _
  have hB6s := hB6.size
  refine (HD.out _ _ _ (StrSl.of_block (l := [[97], [98]]) 2 rfl n2') (StrSl.of_block (l := [[97], [99], [100]]) 3 rfl n3)).mono ?_
  rintro e w7 ⟨x, rfl, hx, hb7⟩
  have hB7 := hB6.trans (hb7.mono hB6s)
  have hB7s := hB7.size
  go_wp2_with fail
  have hx8 := Ints.below hx ((Below.refl _ _).alloc (Nat.le_refl _) (.cells #[.int .i64 1, .int .i64 2] 3))
  refine (HS.out _ _ _ hx8.sl (IntSl.of_block (l := [1, 2]) 2 rfl (heap_alloc_new w7 _))).mono ?_
  rintro e w8 ⟨rfl, q, rfl⟩
  go_wp2_with fail
  go_ret
  exact ⟨rfl, (hB7.alloc hB7s _).trans ⟨rfl, rfl, rfl, Nat.le_refl _, fun _ _ => rfl⟩⟩
end
section
open Go.RowKit
theorem PartIn.at {S : Nat → Prop} {u : World} {d : Nat} {p : PartT} {cs : Array Value} (h : PartIn S u d p cs) : PartAt u d p cs := by
  obtain ⟨a, b, c, e, f, h0, h1, h2, h3, h4, h5⟩ := h
  exact ⟨a, b, c, e, f, h0, h1.at, h2.at, h3.at, h4.at, h5.at⟩
end
end Go.Proofs.YtnaamiecljinnaaGreat
