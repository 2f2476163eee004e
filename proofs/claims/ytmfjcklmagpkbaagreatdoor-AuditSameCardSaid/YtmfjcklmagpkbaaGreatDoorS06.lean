/-
  O4 in one text.
-/
import Derived.Below
import Derived.BigQuiet
import Derived.ChangeArms
import Derived.DataReads
import Derived.Deep.AppendLies
import Derived.Deep.AppendSrc
import Derived.Deep.Cut
import Derived.Deep.DeepCutAuto
import Derived.Deep.QuietTactic
import Derived.Deep.RegionHeld3
import Derived.Deep.RegionWith
import Derived.Defers
import Derived.Handy
import Derived.IntWalk
import Derived.Laws.Bits64b
import Derived.Laws.FloatBits
import Derived.Lib.AtoiAll
import Derived.Lib.Builder
import Derived.Lib.Bytealg
import Derived.Lib.Bytes
import Derived.Lib.ConvBytes
import Derived.Lib.FrozenHead2
import Derived.Lib.Hide
import Derived.Lib.IndexMore
import Derived.Lib.ItoaNum
import Derived.Lib.MinMax
import Derived.Lib.OthersKept
import Derived.Lib.ParseIntB
import Derived.Lib.UnsafeStr
import Derived.LoopTactic
import Derived.OneCell
import Derived.OwnWalk
import Derived.ProofKit
import Derived.Recover
import Derived.RegionTactic
import Derived.Shelf.Abstract
import Derived.SizedLaws
import Derived.StillTailTactics
import Derived.Tactics
import Derived.Tactics2
import Derived.Test.YtmfjcklmagpkbaaGreatDoorChecked
import Derived.WalkKit
import Derived.WalkLawsBesides
import Derived.WalkSpells
import Derived.WideShapes
import Ieee.Arith
import Derived.Test.YtmfjcklmagpkbaaGreatDoorS00
import Derived.Test.YtmfjcklmagpkbaaGreatDoorS03
import Derived.Test.YtmfjcklmagpkbaaGreatDoorS04
namespace Go.Proofs.YtmfjcklmagpkbaaGreatDoor
open Go.RowKit
theorem list6 {α : Type} {l : List α} (h : l.length = 6) : ∃ c0 c1 c2 c3 c4 c5, l = [c0, c1, c2, c3, c4, c5] := by
  match l, h with
  | [c0, c1, c2, c3, c4, c5], _ => exact ⟨c0, c1, c2, c3, c4, c5, rfl⟩
theorem cz_int : Tryz.prog.cellsOf 3 = 1 := by kernel_rfl
theorem cz_int64 : Tryz.prog.cellsOf 2 = 1 := by kernel_rfl
theorem cz_float64 : Tryz.prog.cellsOf 24 = 1 := by kernel_rfl
theorem cz_string : Tryz.prog.cellsOf 9 = 1 := by kernel_rfl
theorem cz_s_string : Tryz.prog.cellsOf 25 = 1 := by kernel_rfl
theorem cz_s_Value : Tryz.prog.cellsOf 26 = 1 := by kernel_rfl
theorem cz_Value : Tryz.prog.cellsOf 28 = 6 := by kernel_rfl
theorem by_string : 0 < Tryz.prog.bytesOf 9 := of_decide_eq_true (by kernel_rfl)
theorem by_Value : 0 < Tryz.prog.bytesOf 28 := of_decide_eq_true (by kernel_rfl)
section
variable {H : Type} {enc : TypeId × Value → H} {w : World} {base : Nat} {sp : Nat → Bool} {held : Bool}
theorem open_strs {n : Nat} {c : Value} {x : DataW H × List MemPlace} (h : DataW.trod enc Tryz.prog w base sp held n 25 [c] = some x) (hz : Sized Tryz.prog 25 x.1) : ∃ l, Strs w l c := by
  obtain ⟨p, len, cap, hc, hl, hr⟩ := open_sl Tryz.underlying25 cz_string (by omega) by_string h hz
  simp only [List.cons.injEq, and_true] at hc
  subst hc
  rcases hr with rfl | ⟨g, off, m, rfl, hg, _, hr⟩
  · exact ⟨[], by simp, by simp, .inl ⟨rfl, _, _, rfl⟩⟩
  · obtain ⟨l, h1, h2⟩ := list_of ([] : List UInt8) len (fun i s => s.length ≤ 140737488355328 ∧ w.cell? ⟨g, off + i, none⟩ = some (.string ⟨s.toArray⟩)) (fun i hi => by
      obtain ⟨ds, y, _, k2, k3, k4⟩ := hr i hi
      obtain ⟨s, rfl, hs⟩ := open_string Tryz.underlying9 k2 k3
      refine ⟨s, hs, ?_⟩
      have := k4 0 (by omega)
      simpa using this)
    refine ⟨l, by omega, fun s hs => ?_, .inr ⟨g, off, cap, by rw [h1], hg, fun i hi => (h2 i (by omega)).2⟩⟩
    obtain ⟨i, hi⟩ := List.getElem?_of_mem hs
    have hi' : i < l.length := (List.getElem?_eq_some_iff.1 hi).1
    have := (h2 i (by omega)).1
    rw [List.getD, hi] at this
    exact this
theorem open_val : ∀ (fuel : Nat) (cs : List Value) (x : DataW H × List MemPlace), DataW.trod enc Tryz.prog w base sp held fuel 28 cs = some x → Sized Tryz.prog 28 x.1 → ∃ v, ValAt w fuel v cs.toArray := by
  intro fuel
  induction fuel using Nat.strongRecOn with
  | ind fuel ih =>
  intro cs x h hz
  obtain ⟨n, rfl, hl, hf⟩ := open_st Tryz.underlying28 h hz
  rw [cz_Value] at hl
  obtain ⟨c0, c1, c2, c3, c4, c5, rfl⟩ := list6 hl
  obtain ⟨y0, h0, z0⟩ := hf 0 _ rfl
  replace z0 : Sized Tryz.prog 3 y0.1 := z0
  replace h0 : DataW.trod enc Tryz.prog w base sp held n 3 ((([c0, c1, c2, c3, c4, c5]).drop 0).take (Tryz.prog.cellsOf 3)) = some y0 := h0
  rw [cz_int] at h0
  replace h0 : DataW.trod enc Tryz.prog w base sp held n 3 [c0] = some y0 := h0
  obtain ⟨y1, h1, z1⟩ := hf 1 _ rfl
  replace z1 : Sized Tryz.prog 2 y1.1 := z1
  replace h1 : DataW.trod enc Tryz.prog w base sp held n 2 ((([c0, c1, c2, c3, c4, c5]).drop 1).take (Tryz.prog.cellsOf 2)) = some y1 := h1
  rw [cz_int64] at h1
  replace h1 : DataW.trod enc Tryz.prog w base sp held n 2 [c1] = some y1 := h1
  obtain ⟨y2, h2, z2⟩ := hf 2 _ rfl
  replace z2 : Sized Tryz.prog 24 y2.1 := z2
  replace h2 : DataW.trod enc Tryz.prog w base sp held n 24 ((([c0, c1, c2, c3, c4, c5]).drop 2).take (Tryz.prog.cellsOf 24)) = some y2 := h2
  rw [cz_float64] at h2
  replace h2 : DataW.trod enc Tryz.prog w base sp held n 24 [c2] = some y2 := h2
  obtain ⟨y3, h3, z3⟩ := hf 3 _ rfl
  replace z3 : Sized Tryz.prog 9 y3.1 := z3
  replace h3 : DataW.trod enc Tryz.prog w base sp held n 9 ((([c0, c1, c2, c3, c4, c5]).drop 3).take (Tryz.prog.cellsOf 9)) = some y3 := h3
  rw [cz_string] at h3
  replace h3 : DataW.trod enc Tryz.prog w base sp held n 9 [c3] = some y3 := h3
  obtain ⟨y4, h4, z4⟩ := hf 4 _ rfl
  replace z4 : Sized Tryz.prog 25 y4.1 := z4
  replace h4 : DataW.trod enc Tryz.prog w base sp held n 25 ((([c0, c1, c2, c3, c4, c5]).drop 4).take (Tryz.prog.cellsOf 25)) = some y4 := h4
  rw [cz_s_string] at h4
  replace h4 : DataW.trod enc Tryz.prog w base sp held n 25 [c4] = some y4 := h4
  obtain ⟨y5, h5, z5⟩ := hf 5 _ rfl
  replace z5 : Sized Tryz.prog 26 y5.1 := z5
  replace h5 : DataW.trod enc Tryz.prog w base sp held n 26 ((([c0, c1, c2, c3, c4, c5]).drop 5).take (Tryz.prog.cellsOf 26)) = some y5 := h5
  rw [cz_s_Value] at h5
  replace h5 : DataW.trod enc Tryz.prog w base sp held n 26 [c5] = some y5 := h5
  obtain ⟨k0, e0, b0⟩ := open_int Tryz.underlying3 h0
  simp only [List.cons.injEq, and_true] at e0
  subst e0
  obtain ⟨k1, e1, b1⟩ := open_int Tryz.underlying2 h1
  simp only [List.cons.injEq, and_true] at e1
  subst e1
  obtain ⟨k2, e2, b2⟩ := open_float64 Tryz.underlying24 h2
  simp only [List.cons.injEq, and_true] at e2
  subst e2
  obtain ⟨k3, e3, b3⟩ := open_string Tryz.underlying9 h3 z3
  simp only [List.cons.injEq, and_true] at e3
  subst e3
  obtain ⟨ns, hns⟩ := open_strs h4 z4
  obtain ⟨p, len, cap, hc, hll, hr⟩ := open_sl Tryz.underlying26 cz_Value (by omega) by_Value h5 z5
  simp only [List.cons.injEq, and_true] at hc
  subst hc
  rcases hr with rfl | ⟨g, off, m, rfl, hg, rfl, hr⟩
  · exact ⟨.mk k0 k1 k2 k3 ns [], _, _, rfl, b0, b1, b2, b3, hns, by simp [VT.items], .inl ⟨rfl, _, _, rfl⟩⟩
  · obtain ⟨l, l1, l2⟩ := list_of noVT len (fun i v => ∃ ds : Array Value, ValAt w (m + 1) v ds ∧ ∀ j, j < 6 → w.cell? ⟨g, off + i * 6 + j, none⟩ = ds[j]?) (fun i hi => by
      obtain ⟨ds, y, _, q2, q3, q4⟩ := hr i hi
      obtain ⟨v, hv⟩ := ih m (by omega) ds y q2 q3
      exact ⟨v, ds.toArray, hv.le (by omega), fun j hj => by rw [q4 j hj]; simp⟩)
    refine ⟨.mk k0 k1 k2 k3 ns l, _, _, rfl, b0, b1, b2, b3, hns, by show l.length ≤ _; omega, .inr ⟨g, off, cap, by show _ = Value.slice _ l.length cap; rw [l1], hg, fun i hi => l2 i (by have hi : i < l.length := hi; omega)⟩⟩
theorem open_vals (fuel : Nat) (c : Value) (x : DataW H × List MemPlace) (h : DataW.trod enc Tryz.prog w base sp held fuel 26 [c] = some x) (hz : Sized Tryz.prog 26 x.1) : ∃ d l, Vls w d l c := by
  obtain ⟨p, len, cap, hc, hll, hr⟩ := open_sl Tryz.underlying26 cz_Value (by omega) by_Value h hz
  simp only [List.cons.injEq, and_true] at hc
  subst hc
  rcases hr with rfl | ⟨g, off, m, rfl, hg, rfl, hr⟩
  · exact ⟨0, [], p, cap, rfl, by simp, fun i hi => by simp at hi⟩
  · obtain ⟨l, l1, l2⟩ := list_of noVT len (fun i v => ∃ ds : Array Value, ValAt w m v ds ∧ ∀ j, j < 6 → w.cell? ⟨g, off + i * 6 + j, none⟩ = ds[j]?) (fun i hi => by
      obtain ⟨ds, y, _, q2, q3, q4⟩ := hr i hi
      obtain ⟨v, hv⟩ := open_val m ds y q2 q3
      exact ⟨v, ds.toArray, hv, fun j hj => by rw [q4 j hj]; simp⟩)
    refine ⟨m, l, some ⟨g, off, none⟩, cap, by rw [l1], by omega, fun i hi => ?_⟩
    obtain ⟨ds, h1, h2⟩ := l2 i (by omega)
    exact ⟨g, off, rfl, hg, ds, h1, h2⟩
end
end Go.Proofs.YtmfjcklmagpkbaaGreatDoor
