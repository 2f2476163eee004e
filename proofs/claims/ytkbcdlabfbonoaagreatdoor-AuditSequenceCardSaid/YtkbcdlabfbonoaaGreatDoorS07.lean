/-
  Lc1 in one text.
-/
import Derived.Below
import Derived.BigFrame
import Derived.BigQuiet
import Derived.Deep.AppendLies
import Derived.Deep.MidRow
import Derived.Deep.QuietTactic
import Derived.Handy
import Derived.IntWalk
import Derived.Laws.Bits64b
import Derived.Laws.FloatBits
import Derived.Laws.Rows
import Derived.Lib.AtoiAll
import Derived.Lib.Builder
import Derived.Lib.FrozenHead2
import Derived.Lib.Hide
import Derived.Lib.IndexMore
import Derived.Lib.ItoaNum
import Derived.Lib.ParseIntB
import Derived.OneCell
import Derived.OwnWalk
import Derived.Tactics
import Derived.Tactics2
import Derived.Test.YtkbcdlabfbonoaaGreatDoorChecked
import Derived.Test.YtkbcdlabfbonoaaGreatDoorEv3
import Derived.Test.YtkbcdlabfbonoaaGreatDoorShelf
import Derived.WalkKit
import Derived.WalkLawsBesides
import Derived.WalkSpells
import Ieee.Arith
import Derived.Test.YtkbcdlabfbonoaaGreatDoorS00
import Derived.Test.YtkbcdlabfbonoaaGreatDoorS02
import Derived.Test.YtkbcdlabfbonoaaGreatDoorS03
namespace Go.Proofs.YtkbcdlabfbonoaaGreatDoor
open Go.RowKit
theorem ValIn.size6 {S : Nat → Prop} {w : World} {d : Nat} {v : VT} {cs : Array Value} (h : ValIn S w d v cs) : cs.size = 6 := by
  cases d with
  | zero => exact h.elim
  | succ d => obtain ⟨pn, pi, rfl, _⟩ := h; rfl
def valK (d : Nat) : ItemK VT 6 where
  at_ S w v ds := ValIn S w d v ds
  size h := h.size6
  kept hs hk h := h.kept hs hk
mutual
/-- whose names and items are not too many to be copied -/
def fitV : VT → Prop
  | .mk _ _ _ _ ns its => ns.length * 16 ≤ 140737488355328 ∧ its.length ≤ 1000000 ∧ fitL its
def fitL : List VT → Prop
  | [] => True
  | x :: xs => fitV x ∧ fitL xs
end
theorem fitL_at : ∀ {l : List VT} {i : Nat} {x : VT}, fitL l → l[i]? = some x → fitV x
  | [], _, _, _, h => by simp at h
  | y :: l, 0, x, h, hx => by
    rw [fitL] at h
    simp at hx; subst hx; exact h.1
  | y :: l, i + 1, x, h, hx => by
    rw [fitL] at h
    exact fitL_at h.2 (by simpa using hx)
theorem canL_map : ∀ l : List VT, canL l = l.map canV
  | [] => by rw [canL]; rfl
  | x :: l => by rw [canL, canL_map l]; rfl
/-- a row of strings that the call made -/
theorem strs_of_own {w : World} {B : Nat} {l : List (List UInt8)} {v : Value} (hl : l.length ≤ 140737488355328) (hs : ∀ s ∈ l, s.length ≤ 140737488355328) (h : w.ownsRow B 9 1 v l.length (l.map fun s => Value.string ⟨s.toArray⟩)) : StrsIn (fun g => B ≤ g) w l v := by
  refine ⟨hl, hs, ?_⟩
  rcases h.2 with ⟨e1, e2⟩ | ⟨g, cap, cur, e1, e2, e3, _⟩
  · have := List.length_eq_zero_iff.1 e2
    exact .inl ⟨this, _, _, e1⟩
  · subst e1
    refine .inr ⟨g, 0, cap, rfl, ⟨by omega, (Array.getElem?_eq_some_iff.1 e3).1⟩, fun i hi => ?_⟩
    have hd : (l.map fun s => Value.string ⟨s.toArray⟩)[i]? = some (.string ⟨(l.getD i []).toArray⟩) := by
      rw [List.getElem?_map, List.getElem?_eq_getElem hi]; simp [List.getD, hi]
    have := World.ownsRow.cells (g := g) h rfl i _ hd
    have hadd : (⟨g, 0, none⟩ : Addr).add i = ⟨g, i, none⟩ := by unfold Addr.add; split <;> simp_all
    rw [hadd] at this
    simpa using this
theorem clone_strs (l : List (List UInt8)) (v : Value) (w : World) (h : Strs w l v) (hf : l.length * 16 ≤ 140737488355328) : Calls Tryz.prog 38 #[v] w fun e w' => ∃ v', e = .returned v' ∧ StrsIn (fun g => w.heap.size ≤ g) w' l v' ∧ Below w.heap.size w w' := by
  obtain ⟨h1, h2, ⟨rfl, p, c, rfl⟩ | ⟨g, off, cap, rfl, hg, hc⟩⟩ := h
  · cases p with
    | none => exact (Tryz.slices_Clone_string_nil 0 c w).mono fun e w' ⟨e1, e2⟩ => ⟨_, e1, ⟨by decide, (fun s hs => nomatch hs), .inl ⟨rfl, _, _, rfl⟩⟩, by rw [e2]; exact Below.refl _ _⟩
    | some a => exact (Tryz.slices_Clone_string_zero a c w).mono fun e w' ⟨v', e1, e2, _, e4⟩ => ⟨v', e1, strs_of_own (l := []) (by decide) (fun s hs => nomatch hs) e2, e4⟩
  · refine (Tryz.slices_Clone_string g off l.length cap (l.map fun s => ⟨s.toArray⟩) w (by simp) hf (fun j hj => by
      have hj : j < l.length := by simpa using hj
      rw [hc j hj]
      simp [List.getD, hj])).mono ?_
    rintro e w' ⟨v', e1, e2, _, e4⟩
    refine ⟨v', e1, strs_of_own h1 h2 ?_, e4⟩
    rw [List.take_of_length_le (by simp), List.map_map] at e2
    exact e2
/-- a list of values as a value's items -/
theorem items_of {S : Nat → Prop} {w : World} {d : Nat} {l : List VT} {v : Value} (h : SlG (valK d) S w v l) : (l = [] ∧ ∃ p c, v = .slice p 0 c) ∨ ∃ g off cap, v = .slice (some ⟨g, off, none⟩) l.length cap ∧ (S g ∧ g < w.heap.size) ∧ ∀ i, i < l.length → ∃ ds, ValIn S w d (l.getD i noVT) ds ∧ ∀ j, j < 6 → w.cell? ⟨g, off + i * 6 + j, none⟩ = ds[j]? := by
  obtain ⟨p, c, rfl, h2, h3⟩ := h
  cases l with
  | nil => exact .inl ⟨rfl, _, _, rfl⟩
  | cons x l =>
    obtain ⟨g, off, rfl, h5, h6, _⟩ := h3 0 x rfl
    refine .inr ⟨g, off, c, rfl, ⟨h5, h6⟩, fun i hi => ?_⟩
    obtain ⟨g', off', e, _, _, ds, k1, k2⟩ := h3 i ((x :: l).getD i noVT) (by rw [List.getD, List.getElem?_eq_getElem hi]; rfl)
    injection e with e
    injection e with e1 e2
    subst e1; subst e2
    exact ⟨ds, k1, k2⟩
end Go.Proofs.YtkbcdlabfbonoaaGreatDoor
