/-
  O6 in one text.
-/
import Derived.Below
import Derived.BigFrame
import Derived.BigQuiet
import Derived.ChangeArms
import Derived.DataReads
import Derived.Deep.AppendLies
import Derived.Deep.AppendSrc
import Derived.Deep.Cut
import Derived.Deep.DeepCutAuto
import Derived.Deep.MidRow
import Derived.Deep.QuietTactic
import Derived.Deep.RegionHeld3
import Derived.Deep.RegionWith
import Derived.Defers
import Derived.Handy
import Derived.IntWalk
import Derived.KernelRfl
import Derived.Laws.Bits64b
import Derived.Laws.FloatBits
import Derived.Laws.Rows
import Derived.Laws.Unary
import Derived.Lib.AtoiAll
import Derived.Lib.Builder
import Derived.Lib.Bytealg
import Derived.Lib.Bytes
import Derived.Lib.ConvBytes
import Derived.Lib.FrozenHead2
import Derived.Lib.Hide
import Derived.Lib.IndexMore
import Derived.Lib.ItoaNum
import Derived.Lib.MinMax
import Derived.Lib.OthersKept
import Derived.Lib.ParseIntB
import Derived.Lib.UnsafeStr
import Derived.LoopTactic
import Derived.OneCell
import Derived.OpenShut
import Derived.OwnWalk
import Derived.ProofKit
import Derived.Recover
import Derived.RegionTactic
import Derived.Scope
import Derived.Shelf.Abstract
import Derived.SizedLaws
import Derived.StillTailTactics
import Derived.Tactics
import Derived.Tactics2
import Derived.Test.YtkbcdlabfbonoaaGreatDoorChecked
import Derived.Test.YtkbcdlabfbonoaaGreatDoorEv3
import Derived.Test.YtkbcdlabfbonoaaGreatDoorShelf
import Derived.WalkKit
import Derived.WalkLawsBesides
import Derived.WalkSpells
import Derived.WideShapes
import Ieee.Arith
import Derived.Test.YtkbcdlabfbonoaaGreatDoorS00
import Derived.Test.YtkbcdlabfbonoaaGreatDoorS02
import Derived.Test.YtkbcdlabfbonoaaGreatDoorS03
import Derived.Test.YtkbcdlabfbonoaaGreatDoorS07
import Derived.Test.YtkbcdlabfbonoaaGreatDoorS09
import Derived.Test.YtkbcdlabfbonoaaGreatDoorS11
import Derived.Test.YtkbcdlabfbonoaaGreatDoorS20
namespace Go.Proofs.YtkbcdlabfbonoaaGreatDoor
open Go.RowKit
mutual
/-- whose names are not too many to be copied -/
def nmV : VT → Prop
  | .mk _ _ _ _ ns its => ns.length * 16 ≤ 140737488355328 ∧ nmL its
def nmL : List VT → Prop
  | [] => True
  | x :: xs => nmV x ∧ nmL xs
end
theorem nmL_of : ∀ {l : List VT}, (∀ i, i < l.length → nmV (l.getD i noVT)) → nmL l
  | [], _ => trivial
  | x :: xs, h => by
    rw [nmL]
    exact ⟨h 0 (by simp), nmL_of fun i hi => h (i + 1) (by simpa using hi)⟩
mutual
theorem fit_of : ∀ (v : VT), psz v ≤ 1000000 → nmV v → fitV v
  | .mk k n f s ns its, h, hn => by
    rw [psz] at h
    rw [nmV] at hn
    rw [fitV]
    have := pszL_ge its
    exact ⟨hn.1, by omega, fit_ofL its (by omega) hn.2⟩
theorem fit_ofL : ∀ (l : List VT), pszL l ≤ 1000000 → nmL l → fitL l
  | [], _, _ => trivial
  | x :: xs, h, hn => by
    rw [pszL] at h
    rw [nmL] at hn
    rw [fitL]
    exact ⟨fit_of x (by omega) hn.1, fit_ofL xs (by omega) hn.2⟩
end
theorem StrsT {w : World} {l : List (List UInt8)} {v : Value} (h : Strs w l v) : StrsIn (fun _ => True) w l v := by
  obtain ⟨h1, h2, h | ⟨g, off, cap, h3, h4, h5⟩⟩ := h
  · exact ⟨h1, h2, .inl h⟩
  · exact ⟨h1, h2, .inr ⟨g, off, cap, h3, ⟨trivial, h4⟩, h5⟩⟩
theorem ValT {w : World} : ∀ {d : Nat} {v : VT} {cs : Array Value}, ValAt w d v cs → ValIn (fun _ => True) w d v cs
  | 0, _, _, h => h.elim
  | d + 1, v, cs, h => by
    obtain ⟨pn, pi, h1, h2, h3, h4, h5, h6, h7, h8⟩ := h
    refine ⟨pn, pi, h1, h2, h3, h4, h5, StrsT h6, h7, ?_⟩
    rcases h8 with h8 | ⟨g, off, cap, a1, a2, a3⟩
    · exact .inl h8
    · refine .inr ⟨g, off, cap, a1, ⟨trivial, a2⟩, fun i hi => ?_⟩
      obtain ⟨ds, b1, b2⟩ := a3 i hi
      exact ⟨ds, ValT b1, b2⟩
theorem open_sl_by {H : Type} {enc : TypeId × Value → H} {P : Program} {w : World} {base : Nat} {sp : Nat → Bool} {held : Bool} {t e : TypeId} {fuel : Nat} {cs : List Value} {x : DataW H × List MemPlace} (ht : P.underlying t = some (.slice e))
    (h : DataW.trod enc P w base sp held fuel t cs = some x) (hz : Sized P t x.1) : ∃ p len cap, cs = [.slice p len cap] ∧ len * P.bytesOf e ≤ 140737488355328 := by
  rcases DataW.trod_slice ht h with ⟨rfl, _⟩ | ⟨a, len, cap, elems, rest, m, rfl, rfl, hx, _, _, _, hlen, hel, _, _⟩
  · exact ⟨none, 0, 0, rfl, by simp⟩
  · rw [hx] at hz
    have hsz := hz.slice ht
    rw [List.length_map, List.length_map, hlen] at hsz
    refine ⟨some a, len, cap, rfl, ?_⟩
    have h1 : len * P.bytesOf e ≤ (len + rest.length) * P.bytesOf e := Nat.mul_le_mul_right _ (by omega)
    unfold reachBytes at hsz
    omega
theorem list2 {α : Type} {l : List α} (h : l.length = 2) : ∃ c0 c1, l = [c0, c1] := by
  match l, h with
  | [c0, c1], _ => exact ⟨c0, c1, rfl⟩
theorem list6 {α : Type} {l : List α} (h : l.length = 6) : ∃ c0 c1 c2 c3 c4 c5, l = [c0, c1, c2, c3, c4, c5] := by
  match l, h with
  | [c0, c1, c2, c3, c4, c5], _ => exact ⟨c0, c1, c2, c3, c4, c5, rfl⟩
theorem list11 {α : Type} {l : List α} (h : l.length = 11) : ∃ c0 c1 c2 c3 c4 c5 c6 c7 c8 c9 c10, l = [c0, c1, c2, c3, c4, c5, c6, c7, c8, c9, c10] := by
  match l, h with
  | [c0, c1, c2, c3, c4, c5, c6, c7, c8, c9, c10], _ => exact ⟨c0, c1, c2, c3, c4, c5, c6, c7, c8, c9, c10, rfl⟩
theorem cz_int : Tryz.prog.cellsOf 3 = 1 := by kernel_rfl
theorem cz_int64 : Tryz.prog.cellsOf 2 = 1 := by kernel_rfl
theorem cz_float64 : Tryz.prog.cellsOf 41 = 1 := by kernel_rfl
theorem cz_string : Tryz.prog.cellsOf 9 = 1 := by kernel_rfl
theorem cz_s_string : Tryz.prog.cellsOf 42 = 1 := by kernel_rfl
theorem cz_s_Value : Tryz.prog.cellsOf 36 = 1 := by kernel_rfl
theorem cz_Value : Tryz.prog.cellsOf 44 = 6 := by kernel_rfl
theorem cz_Ref : Tryz.prog.cellsOf 50 = 2 := by kernel_rfl
theorem cz_Audit : Tryz.prog.cellsOf 52 = 11 := by kernel_rfl
theorem cz_ar_int : Tryz.prog.cellsOf 47 = 2 := by kernel_rfl
theorem by_string : 0 < Tryz.prog.bytesOf 9 := of_decide_eq_true (by kernel_rfl)
theorem by_Value : 0 < Tryz.prog.bytesOf 44 := of_decide_eq_true (by kernel_rfl)
theorem by_Audit : 0 < Tryz.prog.bytesOf 52 := of_decide_eq_true (by kernel_rfl)
theorem by_ar_int : 0 < Tryz.prog.bytesOf 47 := of_decide_eq_true (by kernel_rfl)
section
variable {H : Type} {enc : TypeId × Value → H} {w : World} {base : Nat} {sp : Nat → Bool} {held : Bool}
theorem open_strs {n : Nat} {c : Value} {x : DataW H × List MemPlace} (h : DataW.trod enc Tryz.prog w base sp held n 42 [c] = some x) (hz : Sized Tryz.prog 42 x.1) : ∃ l, Strs w l c := by
  obtain ⟨p, len, cap, hc, hl, hr⟩ := open_sl Tryz.underlying42 cz_string (by omega) by_string h hz
  simp only [List.cons.injEq, and_true] at hc
  subst hc
  rcases hr with rfl | ⟨g, off, m, rfl, hg, _, hr⟩
  · exact ⟨[], by simp, by simp, .inl ⟨rfl, _, _, rfl⟩⟩
  · obtain ⟨l, h1, h2⟩ := list_of ([] : List UInt8) len (fun i s => s.length ≤ 140737488355328 ∧ w.cell? ⟨g, off + i, none⟩ = some (.string ⟨s.toArray⟩)) (fun i hi => by
      obtain ⟨ds, y, _, k2, k3, k4⟩ := hr i hi
      obtain ⟨s, rfl, hs⟩ := open_string Tryz.underlying9 k2 k3
      refine ⟨s, hs, ?_⟩
      have := k4 0 (by omega)
      simpa using this)
    refine ⟨l, by omega, fun s hs => ?_, .inr ⟨g, off, cap, by rw [h1], hg, fun i hi => (h2 i (by omega)).2⟩⟩
    obtain ⟨i, hi⟩ := List.getElem?_of_mem hs
    have hi' : i < l.length := (List.getElem?_eq_some_iff.1 hi).1
    have := (h2 i (by omega)).1
    rw [List.getD, hi] at this
    exact this
theorem open_strs2 {n : Nat} {c : Value} {x : DataW H × List MemPlace} (h : DataW.trod enc Tryz.prog w base sp held n 42 [c] = some x) (hz : Sized Tryz.prog 42 x.1) : ∃ l, Strs w l c ∧ l.length * 16 ≤ 140737488355328 := by
  obtain ⟨l, hl⟩ := open_strs h hz
  obtain ⟨p, len, cap, hc, hb⟩ := open_sl_by Tryz.underlying42 h hz
  simp only [List.cons.injEq, and_true] at hc
  subst hc
  rw [show Tryz.prog.bytesOf 9 = 16 by kernel_rfl] at hb
  refine ⟨l, hl, ?_⟩
  obtain ⟨_, _, ⟨rfl, _⟩ | ⟨g, off, c, e, _⟩⟩ := hl
  · simp
  · injection e with _ e _
    omega
theorem open_val : ∀ (fuel : Nat) (cs : List Value) (x : DataW H × List MemPlace), DataW.trod enc Tryz.prog w base sp held fuel 44 cs = some x → Sized Tryz.prog 44 x.1 → ∃ v, ValAt w fuel v cs.toArray ∧ nmV v := by
  intro fuel
  induction fuel using Nat.strongRecOn with
  | ind fuel ih =>
  intro cs x h hz
  obtain ⟨n, rfl, hl, hf⟩ := open_st Tryz.underlying44 h hz
  rw [cz_Value] at hl
  obtain ⟨c0, c1, c2, c3, c4, c5, rfl⟩ := list6 hl
  obtain ⟨y0, h0, z0⟩ := hf 0 _ rfl
  replace z0 : Sized Tryz.prog 3 y0.1 := z0
  replace h0 : DataW.trod enc Tryz.prog w base sp held n 3 ((([c0, c1, c2, c3, c4, c5]).drop 0).take (Tryz.prog.cellsOf 3)) = some y0 := h0
  rw [cz_int] at h0
  replace h0 : DataW.trod enc Tryz.prog w base sp held n 3 [c0] = some y0 := h0
  obtain ⟨y1, h1, z1⟩ := hf 1 _ rfl
  replace z1 : Sized Tryz.prog 2 y1.1 := z1
  replace h1 : DataW.trod enc Tryz.prog w base sp held n 2 ((([c0, c1, c2, c3, c4, c5]).drop 1).take (Tryz.prog.cellsOf 2)) = some y1 := h1
  rw [cz_int64] at h1
  replace h1 : DataW.trod enc Tryz.prog w base sp held n 2 [c1] = some y1 := h1
  obtain ⟨y2, h2, z2⟩ := hf 2 _ rfl
  replace z2 : Sized Tryz.prog 41 y2.1 := z2
  replace h2 : DataW.trod enc Tryz.prog w base sp held n 41 ((([c0, c1, c2, c3, c4, c5]).drop 2).take (Tryz.prog.cellsOf 41)) = some y2 := h2
  rw [cz_float64] at h2
  replace h2 : DataW.trod enc Tryz.prog w base sp held n 41 [c2] = some y2 := h2
  obtain ⟨y3, h3, z3⟩ := hf 3 _ rfl
  replace z3 : Sized Tryz.prog 9 y3.1 := z3
  replace h3 : DataW.trod enc Tryz.prog w base sp held n 9 ((([c0, c1, c2, c3, c4, c5]).drop 3).take (Tryz.prog.cellsOf 9)) = some y3 := h3
  rw [cz_string] at h3
  replace h3 : DataW.trod enc Tryz.prog w base sp held n 9 [c3] = some y3 := h3
  obtain ⟨y4, h4, z4⟩ := hf 4 _ rfl
  replace z4 : Sized Tryz.prog 42 y4.1 := z4
  replace h4 : DataW.trod enc Tryz.prog w base sp held n 42 ((([c0, c1, c2, c3, c4, c5]).drop 4).take (Tryz.prog.cellsOf 42)) = some y4 := h4
  rw [cz_s_string] at h4
  replace h4 : DataW.trod enc Tryz.prog w base sp held n 42 [c4] = some y4 := h4
  obtain ⟨y5, h5, z5⟩ := hf 5 _ rfl
  replace z5 : Sized Tryz.prog 36 y5.1 := z5
  replace h5 : DataW.trod enc Tryz.prog w base sp held n 36 ((([c0, c1, c2, c3, c4, c5]).drop 5).take (Tryz.prog.cellsOf 36)) = some y5 := h5
  rw [cz_s_Value] at h5
  replace h5 : DataW.trod enc Tryz.prog w base sp held n 36 [c5] = some y5 := h5
  obtain ⟨k0, e0, b0⟩ := open_int Tryz.underlying3 h0
  simp only [List.cons.injEq, and_true] at e0
  subst e0
  obtain ⟨k1, e1, b1⟩ := open_int Tryz.underlying2 h1
  simp only [List.cons.injEq, and_true] at e1
  subst e1
  obtain ⟨k2, e2, b2⟩ := open_float64 Tryz.underlying41 h2
  simp only [List.cons.injEq, and_true] at e2
  subst e2
  obtain ⟨k3, e3, b3⟩ := open_string Tryz.underlying9 h3 z3
  simp only [List.cons.injEq, and_true] at e3
  subst e3
  obtain ⟨ns, hns, hnb⟩ := open_strs2 h4 z4
  obtain ⟨p, len, cap, hc, hll, hr⟩ := open_sl Tryz.underlying36 cz_Value (by omega) by_Value h5 z5
  simp only [List.cons.injEq, and_true] at hc
  subst hc
  rcases hr with rfl | ⟨g, off, m, rfl, hg, rfl, hr⟩
  · exact ⟨.mk k0 k1 k2 k3 ns [], ⟨_, _, rfl, b0, b1, b2, b3, hns, by simp [VT.items], .inl ⟨rfl, _, _, rfl⟩⟩, by rw [nmV]; exact ⟨hnb, trivial⟩⟩
  · obtain ⟨l, l1, l2⟩ := list_of noVT len (fun i v => nmV v ∧ ∃ ds : Array Value, ValAt w (m + 1) v ds ∧ ∀ j, j < 6 → w.cell? ⟨g, off + i * 6 + j, none⟩ = ds[j]?) (fun i hi => by
      obtain ⟨ds, y, _, q2, q3, q4⟩ := hr i hi
      obtain ⟨v, hv, hnv⟩ := ih m (by omega) ds y q2 q3
      exact ⟨v, hnv, ds.toArray, hv.le (by omega), fun j hj => by rw [q4 j hj]; simp⟩)
    refine ⟨.mk k0 k1 k2 k3 ns l, ⟨_, _, rfl, b0, b1, b2, b3, hns, by show l.length ≤ _; omega, .inr ⟨g, off, cap, by show _ = Value.slice _ l.length cap; rw [l1], hg, fun i hi => (l2 i (by have hi : i < l.length := hi; omega)).2⟩⟩, by rw [nmV]; exact ⟨hnb, nmL_of fun i hi => (l2 i (by omega)).1⟩⟩
theorem open_ref {n : Nat} {a b : Value} {x : DataW H × List MemPlace} (h : DataW.trod enc Tryz.prog w base sp held n 50 [a, b] = some x) (hz : Sized Tryz.prog 50 x.1) : ∃ i j : Int, a = .int .i64 i ∧ b = .int .i64 j := by
  obtain ⟨n, rfl, hl, hf⟩ := open_st Tryz.underlying50 h hz
  obtain ⟨c0, c1, hc⟩ : ∃ c0 c1, [c0, c1] = [a, b] := ⟨a, b, rfl⟩
  simp only [List.cons.injEq, and_true] at hc
  obtain ⟨rfl, rfl⟩ := hc
  obtain ⟨y0, h0, z0⟩ := hf 0 _ rfl
  replace z0 : Sized Tryz.prog 3 y0.1 := z0
  replace h0 : DataW.trod enc Tryz.prog w base sp held n 3 ((([c0, c1]).drop 0).take (Tryz.prog.cellsOf 3)) = some y0 := h0
  rw [cz_int] at h0
  replace h0 : DataW.trod enc Tryz.prog w base sp held n 3 [c0] = some y0 := h0
  obtain ⟨y1, h1, z1⟩ := hf 1 _ rfl
  replace z1 : Sized Tryz.prog 3 y1.1 := z1
  replace h1 : DataW.trod enc Tryz.prog w base sp held n 3 ((([c0, c1]).drop 1).take (Tryz.prog.cellsOf 3)) = some y1 := h1
  rw [cz_int] at h1
  replace h1 : DataW.trod enc Tryz.prog w base sp held n 3 [c1] = some y1 := h1
  obtain ⟨k0, e0, b0⟩ := open_int Tryz.underlying3 h0
  simp only [List.cons.injEq, and_true] at e0
  subst e0
  obtain ⟨k1, e1, b1⟩ := open_int Tryz.underlying3 h1
  simp only [List.cons.injEq, and_true] at e1
  subst e1
  exact ⟨_, _, rfl, rfl⟩
theorem open_pair (fuel : Nat) (cs : List Value) (x : DataW H × List MemPlace) (h : DataW.trod enc Tryz.prog w base sp held fuel 47 cs = some x) : ∃ a b : Int, cs = [.int .i64 a, .int .i64 b] := by
  obtain ⟨xs, m, rfl, hx, hl, hn, hf⟩ := DataW.trod_array Tryz.underlying47 h
  rw [cz_ar_int] at hl
  obtain ⟨c0, c1, rfl⟩ := list2 hl
  rw [cz_int] at hf
  have h0 : DataW.trod enc Tryz.prog w base sp held m 3 [c0] = xs[0]? := hf 0 (by omega)
  have h1 : DataW.trod enc Tryz.prog w base sp held m 3 [c1] = xs[1]? := hf 1 (by omega)
  rw [List.getElem?_eq_getElem (by omega)] at h0 h1
  obtain ⟨k0, e0, _⟩ := open_int Tryz.underlying3 h0
  obtain ⟨k1, e1, _⟩ := open_int Tryz.underlying3 h1
  simp at e0 e1
  exact ⟨k0, k1, by rw [e0, e1]⟩
theorem open_pairs (fuel : Nat) (c : Value) (x : DataW H × List MemPlace) (h : DataW.trod enc Tryz.prog w base sp held fuel 22 [c] = some x) (hz : Sized Tryz.prog 22 x.1) : ∃ l, PairsAt w l c := by
  obtain ⟨p, len, cap, hc, hl, hr⟩ := open_sl Tryz.underlying22 cz_ar_int (by omega) by_ar_int h hz
  simp only [List.cons.injEq, and_true] at hc
  subst hc
  rcases hr with rfl | ⟨g, off, m, rfl, hg, _, hr⟩
  · exact ⟨[], _, _, rfl, by simp, fun i x h => by simp at h⟩
  · obtain ⟨l, h1, h2⟩ := list_of ((0, 0) : Int × Int) len (fun i s => w.cell? ⟨g, off + i * 2, none⟩ = some (.int .i64 s.1) ∧ w.cell? ⟨g, off + i * 2 + 1, none⟩ = some (.int .i64 s.2)) (fun i hi => by
      obtain ⟨ds, y, _, k2, _, k4⟩ := hr i hi
      obtain ⟨a, b, rfl⟩ := open_pair m ds y k2
      exact ⟨(a, b), k4 0 (by omega), k4 1 (by omega)⟩)
    refine ⟨l, _, cap, by rw [h1], by omega, fun i x hx => ⟨g, off, rfl, hg, ?_⟩⟩
    have hi := (List.getElem?_eq_some_iff.1 hx).1
    have := h2 i (by omega)
    rw [show l.getD i (0, 0) = x by rw [List.getD, hx]; rfl] at this
    exact this
theorem open_aud (fuel : Nat) (cs : List Value) (x : DataW H × List MemPlace) (h : DataW.trod enc Tryz.prog w base sp held fuel 52 cs = some x) (hz : Sized Tryz.prog 52 x.1) : ∃ y : AudT, AudIn (fun _ => True) w fuel y cs.toArray ∧ nmV y.v := by
  obtain ⟨n, rfl, hl, hf⟩ := open_st Tryz.underlying52 h hz
  rw [cz_Audit] at hl
  obtain ⟨c0, c1, c2, c3, c4, c5, c6, c7, c8, c9, c10, rfl⟩ := list11 hl
  obtain ⟨y0, h0, z0⟩ := hf 0 _ rfl
  replace z0 : Sized Tryz.prog 50 y0.1 := z0
  replace h0 : DataW.trod enc Tryz.prog w base sp held n 50 ((([c0, c1, c2, c3, c4, c5, c6, c7, c8, c9, c10]).drop 0).take (Tryz.prog.cellsOf 50)) = some y0 := h0
  rw [cz_Ref] at h0
  replace h0 : DataW.trod enc Tryz.prog w base sp held n 50 [c0, c1] = some y0 := h0
  obtain ⟨y1, h1, z1⟩ := hf 1 _ rfl
  replace z1 : Sized Tryz.prog 3 y1.1 := z1
  replace h1 : DataW.trod enc Tryz.prog w base sp held n 3 ((([c0, c1, c2, c3, c4, c5, c6, c7, c8, c9, c10]).drop 2).take (Tryz.prog.cellsOf 3)) = some y1 := h1
  rw [cz_int] at h1
  replace h1 : DataW.trod enc Tryz.prog w base sp held n 3 [c2] = some y1 := h1
  obtain ⟨y2, h2, z2⟩ := hf 2 _ rfl
  replace z2 : Sized Tryz.prog 3 y2.1 := z2
  replace h2 : DataW.trod enc Tryz.prog w base sp held n 3 ((([c0, c1, c2, c3, c4, c5, c6, c7, c8, c9, c10]).drop 3).take (Tryz.prog.cellsOf 3)) = some y2 := h2
  rw [cz_int] at h2
  replace h2 : DataW.trod enc Tryz.prog w base sp held n 3 [c3] = some y2 := h2
  obtain ⟨y3, h3, z3⟩ := hf 3 _ rfl
  replace z3 : Sized Tryz.prog 3 y3.1 := z3
  replace h3 : DataW.trod enc Tryz.prog w base sp held n 3 ((([c0, c1, c2, c3, c4, c5, c6, c7, c8, c9, c10]).drop 4).take (Tryz.prog.cellsOf 3)) = some y3 := h3
  rw [cz_int] at h3
  replace h3 : DataW.trod enc Tryz.prog w base sp held n 3 [c4] = some y3 := h3
  obtain ⟨y4, h4, z4⟩ := hf 4 _ rfl
  replace z4 : Sized Tryz.prog 44 y4.1 := z4
  replace h4 : DataW.trod enc Tryz.prog w base sp held n 44 ((([c0, c1, c2, c3, c4, c5, c6, c7, c8, c9, c10]).drop 5).take (Tryz.prog.cellsOf 44)) = some y4 := h4
  rw [cz_Value] at h4
  replace h4 : DataW.trod enc Tryz.prog w base sp held n 44 [c5, c6, c7, c8, c9, c10] = some y4 := h4
  obtain ⟨k0, k1, rfl, rfl⟩ := open_ref h0 z0
  obtain ⟨k2, e2, b2⟩ := open_int Tryz.underlying3 h1
  simp only [List.cons.injEq, and_true] at e2
  subst e2
  obtain ⟨k3, e3, b3⟩ := open_int Tryz.underlying3 h2
  simp only [List.cons.injEq, and_true] at e3
  subst e3
  obtain ⟨k4, e4, b4⟩ := open_int Tryz.underlying3 h3
  simp only [List.cons.injEq, and_true] at e4
  subst e4
  obtain ⟨a, ha, hn⟩ := open_val n _ y4 h4 z4
  obtain ⟨pp, pc, p, cap, hp⟩ := ha.sixS
  simp only [Array.mk.injEq, List.cons.injEq, and_true] at hp
  obtain ⟨rfl, rfl, rfl, rfl, rfl, rfl⟩ := hp
  exact ⟨⟨k0, k1, k2, k3, k4, a⟩, ⟨_, _, _, _, rfl, ValT (ha.le (by omega))⟩, hn⟩
theorem open_auds (fuel : Nat) (c : Value) (x : DataW H × List MemPlace) (h : DataW.trod enc Tryz.prog w base sp held fuel 23 [c] = some x) (hz : Sized Tryz.prog 23 x.1) : ∃ d l, SlG (audK d) (fun _ => True) w c l ∧ ∀ y ∈ l, nmV y.v := by
  obtain ⟨p, len, cap, hc, hl, hr⟩ := open_sl Tryz.underlying23 cz_Audit (by omega) by_Audit h hz
  simp only [List.cons.injEq, and_true] at hc
  subst hc
  rcases hr with rfl | ⟨g, off, m, rfl, hg, _, hr⟩
  · exact ⟨1, [], ⟨_, _, rfl, by simp, fun i x h => by simp at h⟩, fun y hy => by cases hy⟩
  · obtain ⟨l, h1, h2⟩ := list_of (⟨0, 0, 0, 0, 0, noVT⟩ : AudT) len (fun i s => nmV s.v ∧ ∃ ds : Array Value, AudIn (fun _ => True) w m s ds ∧ ∀ j, j < 11 → w.cell? ⟨g, off + i * 11 + j, none⟩ = ds[j]?) (fun i hi => by
      obtain ⟨ds, y, _, k2, k3, k4⟩ := hr i hi
      obtain ⟨s, hs, hn⟩ := open_aud m ds y k2 k3
      exact ⟨s, hn, ds.toArray, hs, fun j hj => by rw [k4 j hj]; simp⟩)
    refine ⟨m, l, ⟨_, cap, by rw [h1], by omega, fun i x hx => ?_⟩, fun y hy => ?_⟩
    · have hi := (List.getElem?_eq_some_iff.1 hx).1
      have := (h2 i (by omega)).2
      rw [show l.getD i (⟨0, 0, 0, 0, 0, noVT⟩ : AudT) = x by rw [List.getD, hx]; rfl] at this
      obtain ⟨ds, q1, q2⟩ := this
      exact ⟨g, off, rfl, trivial, hg, ds, q1, q2⟩
    · obtain ⟨i, hi⟩ := List.getElem?_of_mem hy
      have hlt := (List.getElem?_eq_some_iff.1 hi).1
      have := (h2 i (by omega)).1
      rw [show l.getD i (⟨0, 0, 0, 0, 0, noVT⟩ : AudT) = y by rw [List.getD, hi]; rfl] at this
      exact this
end
end Go.Proofs.YtkbcdlabfbonoaaGreatDoor
