/-
  O7 in one text.
-/
import Derived.Below
import Derived.BigQuiet
import Derived.ChangeArms
import Derived.DataReads
import Derived.Deep.AppendLies
import Derived.Deep.AppendSrc
import Derived.Deep.Cut
import Derived.Deep.DeepCutAuto
import Derived.Deep.MidRow
import Derived.Deep.QuietTactic
import Derived.Deep.RegionHeld3
import Derived.Deep.RegionWith
import Derived.Defers
import Derived.Handy
import Derived.IntWalk
import Derived.Laws.Bits64b
import Derived.Laws.FloatBits
import Derived.Lib.AtoiAll
import Derived.Lib.Builder
import Derived.Lib.Bytealg
import Derived.Lib.Bytes
import Derived.Lib.ConvBytes
import Derived.Lib.FrozenHead2
import Derived.Lib.Hide
import Derived.Lib.IndexMore
import Derived.Lib.ItoaNum
import Derived.Lib.MinMax
import Derived.Lib.OthersKept
import Derived.Lib.ParseIntB
import Derived.Lib.UnsafeStr
import Derived.LoopTactic
import Derived.OneCell
import Derived.OpenShut
import Derived.OwnWalk
import Derived.ProofKit
import Derived.Recover
import Derived.RegionTactic
import Derived.Shelf.Abstract
import Derived.SizedLaws
import Derived.StillTailTactics
import Derived.Tactics
import Derived.Tactics2
import Derived.Test.YthponidjednfbaaGreatDoorChecked
import Derived.WalkKit
import Derived.WalkLawsBesides
import Derived.WalkSpells
import Derived.WideShapes
import Ieee.Arith
import Derived.Test.YthponidjednfbaaGreatDoorS00
import Derived.Test.YthponidjednfbaaGreatDoorS02
import Derived.Test.YthponidjednfbaaGreatDoorS03
import Derived.Test.YthponidjednfbaaGreatDoorS04
import Derived.Test.YthponidjednfbaaGreatDoorS06
import Derived.Test.YthponidjednfbaaGreatDoorS07
namespace Go.Proofs.YthponidjednfbaaGreatDoor
open Go.RowKit
theorem StrsT {w : World} {l : List (List UInt8)} {v : Value} (h : Strs w l v) : StrsIn (fun _ => True) w l v := by
  obtain ⟨h1, h2, h | ⟨g, off, cap, h3, h4, h5⟩⟩ := h
  · exact ⟨h1, h2, .inl h⟩
  · exact ⟨h1, h2, .inr ⟨g, off, cap, h3, ⟨trivial, h4⟩, h5⟩⟩
theorem ValT {w : World} : ∀ {d : Nat} {v : VT} {cs : Array Value}, ValAt w d v cs → ValIn (fun _ => True) w d v cs
  | 0, _, _, h => h.elim
  | d + 1, v, cs, h => by
    obtain ⟨pn, pi, h1, h2, h3, h4, h5, h6, h7, h8⟩ := h
    refine ⟨pn, pi, h1, h2, h3, h4, h5, StrsT h6, h7, ?_⟩
    rcases h8 with h8 | ⟨g, off, cap, a1, a2, a3⟩
    · exact .inl h8
    · refine .inr ⟨g, off, cap, a1, ⟨trivial, a2⟩, fun i hi => ?_⟩
      obtain ⟨ds, b1, b2⟩ := a3 i hi
      exact ⟨ds, ValT b1, b2⟩
theorem list6 {α : Type} {l : List α} (h : l.length = 6) : ∃ c0 c1 c2 c3 c4 c5, l = [c0, c1, c2, c3, c4, c5] := by
  match l, h with
  | [c0, c1, c2, c3, c4, c5], _ => exact ⟨c0, c1, c2, c3, c4, c5, rfl⟩
theorem list13 {α : Type} {l : List α} (h : l.length = 13) : ∃ c0 c1 c2 c3 c4 c5 c6 c7 c8 c9 c10 c11 c12, l = [c0, c1, c2, c3, c4, c5, c6, c7, c8, c9, c10, c11, c12] := by
  match l, h with
  | [c0, c1, c2, c3, c4, c5, c6, c7, c8, c9, c10, c11, c12], _ => exact ⟨c0, c1, c2, c3, c4, c5, c6, c7, c8, c9, c10, c11, c12, rfl⟩
theorem cz_int : Tryz.prog.cellsOf 3 = 1 := by kernel_rfl
theorem cz_int64 : Tryz.prog.cellsOf 2 = 1 := by kernel_rfl
theorem cz_float64 : Tryz.prog.cellsOf 30 = 1 := by kernel_rfl
theorem cz_string : Tryz.prog.cellsOf 9 = 1 := by kernel_rfl
theorem cz_s_string : Tryz.prog.cellsOf 31 = 1 := by kernel_rfl
theorem cz_s_Value : Tryz.prog.cellsOf 32 = 1 := by kernel_rfl
theorem cz_Value : Tryz.prog.cellsOf 34 = 6 := by kernel_rfl
theorem cz_Ref : Tryz.prog.cellsOf 29 = 2 := by kernel_rfl
theorem cz_Event : Tryz.prog.cellsOf 37 = 13 := by kernel_rfl
theorem cz_s_Event : Tryz.prog.cellsOf 55 = 1 := by kernel_rfl
theorem cz_Errno : Tryz.prog.cellsOf 35 = 1 := by kernel_rfl
theorem by_string : 0 < Tryz.prog.bytesOf 9 := of_decide_eq_true (by kernel_rfl)
theorem by_Value : 0 < Tryz.prog.bytesOf 34 := of_decide_eq_true (by kernel_rfl)
theorem by_Event : 0 < Tryz.prog.bytesOf 37 := of_decide_eq_true (by kernel_rfl)
theorem by_s_Event : 0 < Tryz.prog.bytesOf 55 := of_decide_eq_true (by kernel_rfl)
section
variable {H : Type} {enc : TypeId × Value → H} {w : World} {base : Nat} {sp : Nat → Bool} {held : Bool}
theorem open_strs {n : Nat} {c : Value} {x : DataW H × List MemPlace} (h : DataW.trod enc Tryz.prog w base sp held n 31 [c] = some x) (hz : Sized Tryz.prog 31 x.1) : ∃ l, Strs w l c := by
  obtain ⟨p, len, cap, hc, hl, hr⟩ := open_sl Tryz.underlying31 cz_string (by omega) by_string h hz
  simp only [List.cons.injEq, and_true] at hc
  subst hc
  rcases hr with rfl | ⟨g, off, m, rfl, hg, _, hr⟩
  · exact ⟨[], by simp, by simp, .inl ⟨rfl, _, _, rfl⟩⟩
  · obtain ⟨l, h1, h2⟩ := list_of ([] : List UInt8) len (fun i s => s.length ≤ 140737488355328 ∧ w.cell? ⟨g, off + i, none⟩ = some (.string ⟨s.toArray⟩)) (fun i hi => by
      obtain ⟨ds, y, _, k2, k3, k4⟩ := hr i hi
      obtain ⟨s, rfl, hs⟩ := open_string Tryz.underlying9 k2 k3
      refine ⟨s, hs, ?_⟩
      have := k4 0 (by omega)
      simpa using this)
    refine ⟨l, by omega, fun s hs => ?_, .inr ⟨g, off, cap, by rw [h1], hg, fun i hi => (h2 i (by omega)).2⟩⟩
    obtain ⟨i, hi⟩ := List.getElem?_of_mem hs
    have hi' : i < l.length := (List.getElem?_eq_some_iff.1 hi).1
    have := (h2 i (by omega)).1
    rw [List.getD, hi] at this
    exact this
theorem open_val : ∀ (fuel : Nat) (cs : List Value) (x : DataW H × List MemPlace), DataW.trod enc Tryz.prog w base sp held fuel 34 cs = some x → Sized Tryz.prog 34 x.1 → ∃ v, ValAt w fuel v cs.toArray := by
  intro fuel
  induction fuel using Nat.strongRecOn with
  | ind fuel ih =>
  intro cs x h hz
  obtain ⟨n, rfl, hl, hf⟩ := open_st Tryz.underlying34 h hz
  rw [cz_Value] at hl
  obtain ⟨c0, c1, c2, c3, c4, c5, rfl⟩ := list6 hl
  obtain ⟨y0, h0, z0⟩ := hf 0 _ rfl
  replace z0 : Sized Tryz.prog 3 y0.1 := z0
  replace h0 : DataW.trod enc Tryz.prog w base sp held n 3 ((([c0, c1, c2, c3, c4, c5]).drop 0).take (Tryz.prog.cellsOf 3)) = some y0 := h0
  rw [cz_int] at h0
  replace h0 : DataW.trod enc Tryz.prog w base sp held n 3 [c0] = some y0 := h0
  obtain ⟨y1, h1, z1⟩ := hf 1 _ rfl
  replace z1 : Sized Tryz.prog 2 y1.1 := z1
  replace h1 : DataW.trod enc Tryz.prog w base sp held n 2 ((([c0, c1, c2, c3, c4, c5]).drop 1).take (Tryz.prog.cellsOf 2)) = some y1 := h1
  rw [cz_int64] at h1
  replace h1 : DataW.trod enc Tryz.prog w base sp held n 2 [c1] = some y1 := h1
  obtain ⟨y2, h2, z2⟩ := hf 2 _ rfl
  replace z2 : Sized Tryz.prog 30 y2.1 := z2
  replace h2 : DataW.trod enc Tryz.prog w base sp held n 30 ((([c0, c1, c2, c3, c4, c5]).drop 2).take (Tryz.prog.cellsOf 30)) = some y2 := h2
  rw [cz_float64] at h2
  replace h2 : DataW.trod enc Tryz.prog w base sp held n 30 [c2] = some y2 := h2
  obtain ⟨y3, h3, z3⟩ := hf 3 _ rfl
  replace z3 : Sized Tryz.prog 9 y3.1 := z3
  replace h3 : DataW.trod enc Tryz.prog w base sp held n 9 ((([c0, c1, c2, c3, c4, c5]).drop 3).take (Tryz.prog.cellsOf 9)) = some y3 := h3
  rw [cz_string] at h3
  replace h3 : DataW.trod enc Tryz.prog w base sp held n 9 [c3] = some y3 := h3
  obtain ⟨y4, h4, z4⟩ := hf 4 _ rfl
  replace z4 : Sized Tryz.prog 31 y4.1 := z4
  replace h4 : DataW.trod enc Tryz.prog w base sp held n 31 ((([c0, c1, c2, c3, c4, c5]).drop 4).take (Tryz.prog.cellsOf 31)) = some y4 := h4
  rw [cz_s_string] at h4
  replace h4 : DataW.trod enc Tryz.prog w base sp held n 31 [c4] = some y4 := h4
  obtain ⟨y5, h5, z5⟩ := hf 5 _ rfl
  replace z5 : Sized Tryz.prog 32 y5.1 := z5
  replace h5 : DataW.trod enc Tryz.prog w base sp held n 32 ((([c0, c1, c2, c3, c4, c5]).drop 5).take (Tryz.prog.cellsOf 32)) = some y5 := h5
  rw [cz_s_Value] at h5
  replace h5 : DataW.trod enc Tryz.prog w base sp held n 32 [c5] = some y5 := h5
  obtain ⟨k0, e0, b0⟩ := open_int Tryz.underlying3 h0
  simp only [List.cons.injEq, and_true] at e0
  subst e0
  obtain ⟨k1, e1, b1⟩ := open_int Tryz.underlying2 h1
  simp only [List.cons.injEq, and_true] at e1
  subst e1
  obtain ⟨k2, e2, b2⟩ := open_float64 Tryz.underlying30 h2
  simp only [List.cons.injEq, and_true] at e2
  subst e2
  obtain ⟨k3, e3, b3⟩ := open_string Tryz.underlying9 h3 z3
  simp only [List.cons.injEq, and_true] at e3
  subst e3
  obtain ⟨ns, hns⟩ := open_strs h4 z4
  obtain ⟨p, len, cap, hc, hll, hr⟩ := open_sl Tryz.underlying32 cz_Value (by omega) by_Value h5 z5
  simp only [List.cons.injEq, and_true] at hc
  subst hc
  rcases hr with rfl | ⟨g, off, m, rfl, hg, rfl, hr⟩
  · exact ⟨.mk k0 k1 k2 k3 ns [], _, _, rfl, b0, b1, b2, b3, hns, by simp [VT.items], .inl ⟨rfl, _, _, rfl⟩⟩
  · obtain ⟨l, l1, l2⟩ := list_of noVT len (fun i v => ∃ ds : Array Value, ValAt w (m + 1) v ds ∧ ∀ j, j < 6 → w.cell? ⟨g, off + i * 6 + j, none⟩ = ds[j]?) (fun i hi => by
      obtain ⟨ds, y, _, q2, q3, q4⟩ := hr i hi
      obtain ⟨v, hv⟩ := ih m (by omega) ds y q2 q3
      exact ⟨v, ds.toArray, hv.le (by omega), fun j hj => by rw [q4 j hj]; simp⟩)
    refine ⟨.mk k0 k1 k2 k3 ns l, _, _, rfl, b0, b1, b2, b3, hns, by show l.length ≤ _; omega, .inr ⟨g, off, cap, by show _ = Value.slice _ l.length cap; rw [l1], hg, fun i hi => l2 i (by have hi : i < l.length := hi; omega)⟩⟩
theorem open_ref {n : Nat} {a b : Value} {x : DataW H × List MemPlace} (h : DataW.trod enc Tryz.prog w base sp held n 29 [a, b] = some x) (hz : Sized Tryz.prog 29 x.1) : ∃ i j : Int, a = .int .i64 i ∧ b = .int .i64 j := by
  obtain ⟨n, rfl, hl, hf⟩ := open_st Tryz.underlying29 h hz
  obtain ⟨c0, c1, hc⟩ : ∃ c0 c1, [c0, c1] = [a, b] := ⟨a, b, rfl⟩
  simp only [List.cons.injEq, and_true] at hc
  obtain ⟨rfl, rfl⟩ := hc
  obtain ⟨y0, h0, z0⟩ := hf 0 _ rfl
  replace z0 : Sized Tryz.prog 3 y0.1 := z0
  replace h0 : DataW.trod enc Tryz.prog w base sp held n 3 ((([c0, c1]).drop 0).take (Tryz.prog.cellsOf 3)) = some y0 := h0
  rw [cz_int] at h0
  replace h0 : DataW.trod enc Tryz.prog w base sp held n 3 [c0] = some y0 := h0
  obtain ⟨y1, h1, z1⟩ := hf 1 _ rfl
  replace z1 : Sized Tryz.prog 3 y1.1 := z1
  replace h1 : DataW.trod enc Tryz.prog w base sp held n 3 ((([c0, c1]).drop 1).take (Tryz.prog.cellsOf 3)) = some y1 := h1
  rw [cz_int] at h1
  replace h1 : DataW.trod enc Tryz.prog w base sp held n 3 [c1] = some y1 := h1
  obtain ⟨k0, e0, b0⟩ := open_int Tryz.underlying3 h0
  simp only [List.cons.injEq, and_true] at e0
  subst e0
  obtain ⟨k1, e1, b1⟩ := open_int Tryz.underlying3 h1
  simp only [List.cons.injEq, and_true] at e1
  subst e1
  exact ⟨_, _, rfl, rfl⟩
theorem open_ev (fuel : Nat) (cs : List Value) (x : DataW H × List MemPlace) (h : DataW.trod enc Tryz.prog w base sp held fuel 37 cs = some x) (hz : Sized Tryz.prog 37 x.1) : ∃ y : EvT, ∀ D, fuel ≤ D → EvIn (fun _ => True) w D y cs.toArray := by
  obtain ⟨n, rfl, hl, hf⟩ := open_st Tryz.underlying37 h hz
  rw [cz_Event] at hl
  obtain ⟨c0, c1, c2, c3, c4, c5, c6, c7, c8, c9, c10, c11, c12, rfl⟩ := list13 hl
  obtain ⟨y0, h0, z0⟩ := hf 0 _ rfl
  replace z0 : Sized Tryz.prog 3 y0.1 := z0
  replace h0 : DataW.trod enc Tryz.prog w base sp held n 3 ((([c0, c1, c2, c3, c4, c5, c6, c7, c8, c9, c10, c11, c12]).drop 0).take (Tryz.prog.cellsOf 3)) = some y0 := h0
  rw [cz_int] at h0
  replace h0 : DataW.trod enc Tryz.prog w base sp held n 3 [c0] = some y0 := h0
  obtain ⟨y1, h1, z1⟩ := hf 1 _ rfl
  replace z1 : Sized Tryz.prog 3 y1.1 := z1
  replace h1 : DataW.trod enc Tryz.prog w base sp held n 3 ((([c0, c1, c2, c3, c4, c5, c6, c7, c8, c9, c10, c11, c12]).drop 1).take (Tryz.prog.cellsOf 3)) = some y1 := h1
  rw [cz_int] at h1
  replace h1 : DataW.trod enc Tryz.prog w base sp held n 3 [c1] = some y1 := h1
  obtain ⟨y2, h2, z2⟩ := hf 2 _ rfl
  replace z2 : Sized Tryz.prog 3 y2.1 := z2
  replace h2 : DataW.trod enc Tryz.prog w base sp held n 3 ((([c0, c1, c2, c3, c4, c5, c6, c7, c8, c9, c10, c11, c12]).drop 2).take (Tryz.prog.cellsOf 3)) = some y2 := h2
  rw [cz_int] at h2
  replace h2 : DataW.trod enc Tryz.prog w base sp held n 3 [c2] = some y2 := h2
  obtain ⟨y3, h3, z3⟩ := hf 3 _ rfl
  replace z3 : Sized Tryz.prog 3 y3.1 := z3
  replace h3 : DataW.trod enc Tryz.prog w base sp held n 3 ((([c0, c1, c2, c3, c4, c5, c6, c7, c8, c9, c10, c11, c12]).drop 3).take (Tryz.prog.cellsOf 3)) = some y3 := h3
  rw [cz_int] at h3
  replace h3 : DataW.trod enc Tryz.prog w base sp held n 3 [c3] = some y3 := h3
  obtain ⟨y4, h4, z4⟩ := hf 4 _ rfl
  replace z4 : Sized Tryz.prog 29 y4.1 := z4
  replace h4 : DataW.trod enc Tryz.prog w base sp held n 29 ((([c0, c1, c2, c3, c4, c5, c6, c7, c8, c9, c10, c11, c12]).drop 4).take (Tryz.prog.cellsOf 29)) = some y4 := h4
  rw [cz_Ref] at h4
  replace h4 : DataW.trod enc Tryz.prog w base sp held n 29 [c4, c5] = some y4 := h4
  obtain ⟨y5, h5, z5⟩ := hf 5 _ rfl
  replace z5 : Sized Tryz.prog 34 y5.1 := z5
  replace h5 : DataW.trod enc Tryz.prog w base sp held n 34 ((([c0, c1, c2, c3, c4, c5, c6, c7, c8, c9, c10, c11, c12]).drop 6).take (Tryz.prog.cellsOf 34)) = some y5 := h5
  rw [cz_Value] at h5
  replace h5 : DataW.trod enc Tryz.prog w base sp held n 34 [c6, c7, c8, c9, c10, c11] = some y5 := h5
  obtain ⟨y6, h6, z6⟩ := hf 6 _ rfl
  replace z6 : Sized Tryz.prog 35 y6.1 := z6
  replace h6 : DataW.trod enc Tryz.prog w base sp held n 35 ((([c0, c1, c2, c3, c4, c5, c6, c7, c8, c9, c10, c11, c12]).drop 12).take (Tryz.prog.cellsOf 35)) = some y6 := h6
  rw [cz_Errno] at h6
  replace h6 : DataW.trod enc Tryz.prog w base sp held n 35 [c12] = some y6 := h6
  obtain ⟨k0, e0, b0⟩ := open_int Tryz.underlying3 h0
  simp only [List.cons.injEq, and_true] at e0
  subst e0
  obtain ⟨k1, e1, b1⟩ := open_int Tryz.underlying3 h1
  simp only [List.cons.injEq, and_true] at e1
  subst e1
  obtain ⟨k2, e2, b2⟩ := open_int Tryz.underlying3 h2
  simp only [List.cons.injEq, and_true] at e2
  subst e2
  obtain ⟨k3, e3, b3⟩ := open_int Tryz.underlying3 h3
  simp only [List.cons.injEq, and_true] at e3
  subst e3
  obtain ⟨k4, k5, rfl, rfl⟩ := open_ref h4 z4
  obtain ⟨a, ha⟩ := open_val n _ y5 h5 z5
  obtain ⟨k12, e12, b12⟩ := open_int Tryz.underlying35 h6
  simp only [List.cons.injEq, and_true] at e12
  subst e12
  obtain ⟨pp, pc, p, cap, hp⟩ := ha.sixS
  simp only [Array.mk.injEq, List.cons.injEq, and_true] at hp
  obtain ⟨rfl, rfl, rfl, rfl, rfl, rfl⟩ := hp
  exact ⟨⟨k0, k1, k2, k3, k4, k5, a, k12⟩, fun D hD => ⟨_, _, _, _, rfl, ValT (ha.le (by omega))⟩⟩
theorem open_evs (fuel : Nat) (c : Value) (x : DataW H × List MemPlace) (h : DataW.trod enc Tryz.prog w base sp held fuel 55 [c] = some x) (hz : Sized Tryz.prog 55 x.1) : ∃ l, ∀ D, fuel ≤ D → SlG (evK D) (fun _ => True) w c l := by
  obtain ⟨p, len, cap, hc, hl, hr⟩ := open_sl Tryz.underlying55 cz_Event (by omega) by_Event h hz
  simp only [List.cons.injEq, and_true] at hc
  subst hc
  rcases hr with rfl | ⟨g, off, m, rfl, hg, hm, hr⟩
  · exact ⟨[], fun D _ => ⟨_, _, rfl, by simp, fun i x h => by simp at h⟩⟩
  · obtain ⟨l, h1, h2⟩ := list_of (⟨0, 0, 0, 0, 0, 0, noVT, 0⟩ : EvT) len (fun i s => ∀ D, fuel ≤ D → ∃ ds : Array Value, EvIn (fun _ => True) w D s ds ∧ ∀ j, j < 13 → w.cell? ⟨g, off + i * 13 + j, none⟩ = ds[j]?) (fun i hi => by
      obtain ⟨ds, y, _, k2, k3, k4⟩ := hr i hi
      obtain ⟨s, hs⟩ := open_ev m ds y k2 k3
      exact ⟨s, fun D hD => ⟨ds.toArray, hs D (by omega), fun j hj => by rw [k4 j hj]; simp⟩⟩)
    refine ⟨l, fun D hD => ⟨_, cap, by rw [h1], by omega, fun i x hx => ?_⟩⟩
    have hi := (List.getElem?_eq_some_iff.1 hx).1
    have := h2 i (by omega) D hD
    rw [show l.getD i (⟨0, 0, 0, 0, 0, 0, noVT, 0⟩ : EvT) = x by rw [List.getD, hx]; rfl] at this
    obtain ⟨ds, q1, q2⟩ := this
    exact ⟨g, off, rfl, trivial, hg, ds, q1, q2⟩
theorem open_views (fuel : Nat) (c : Value) (x : DataW H × List MemPlace) (h : DataW.trod enc Tryz.prog w base sp held fuel 22 [c] = some x) (hz : Sized Tryz.prog 22 x.1) : ∃ l, SlG (entK fuel) (fun _ => True) w c l := by
  obtain ⟨p, len, cap, hc, hl, hr⟩ := open_sl Tryz.underlying22 cz_s_Event (by omega) by_s_Event h hz
  simp only [List.cons.injEq, and_true] at hc
  subst hc
  rcases hr with rfl | ⟨g, off, m, rfl, hg, hm, hr⟩
  · exact ⟨[], ⟨_, _, rfl, by simp, fun i x h => by simp at h⟩⟩
  · obtain ⟨l, h1, h2⟩ := list_of ([] : List EvT) len (fun i s => ∃ u, w.cell? ⟨g, off + i, none⟩ = some u ∧ SlG (evK fuel) (fun _ => True) w u s) (fun i hi => by
      obtain ⟨ds, y, k1, k2, k3, k4⟩ := hr i hi
      obtain ⟨u, rfl⟩ : ∃ u, ds = [u] := by
        match ds, k1 with
        | [u], _ => exact ⟨u, rfl⟩
      obtain ⟨s, hs⟩ := open_evs m u y k2 k3
      exact ⟨s, u, by have := k4 0 (by omega); simpa using this, hs fuel (by omega)⟩)
    refine ⟨l, ⟨_, cap, by rw [h1], by omega, fun i x hx => ?_⟩⟩
    have hi := (List.getElem?_eq_some_iff.1 hx).1
    have := h2 i (by omega)
    rw [show l.getD i [] = x by rw [List.getD, hx]; rfl] at this
    obtain ⟨u, q1, q2⟩ := this
    refine ⟨g, off, rfl, trivial, hg, #[u], ⟨u, rfl, q2⟩, fun j hj => ?_⟩
    obtain rfl : j = 0 := by omega
    simpa using q1
end
end Go.Proofs.YthponidjednfbaaGreatDoor
