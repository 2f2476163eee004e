/-
  Db in one text.
-/
import Derived.Below
import Derived.BigQuiet
import Derived.ChangeArms
import Derived.DataReads
import Derived.Deep.AppendLies
import Derived.Deep.AppendSrc
import Derived.Deep.Cut
import Derived.Deep.DeepCutAuto
import Derived.Deep.QuietTactic
import Derived.Deep.RegionHeld3
import Derived.Deep.RegionWith
import Derived.Defers
import Derived.Handy
import Derived.IntWalk
import Derived.Laws.Bits64b
import Derived.Laws.FloatBits
import Derived.Lib.AtoiAll
import Derived.Lib.Builder
import Derived.Lib.Bytealg
import Derived.Lib.Bytes
import Derived.Lib.ConvBytes
import Derived.Lib.FrozenHead2
import Derived.Lib.Hide
import Derived.Lib.IndexMore
import Derived.Lib.ItoaNum
import Derived.Lib.MinMax
import Derived.Lib.OthersKept
import Derived.Lib.ParseIntB
import Derived.Lib.UnsafeStr
import Derived.LoopTactic
import Derived.OneCell
import Derived.OwnWalk
import Derived.Recover
import Derived.RegionTactic
import Derived.Shelf.Abstract
import Derived.SizedLaws
import Derived.StillTailTactics
import Derived.Tactics
import Derived.Tactics2
import Derived.Test.YtmfjcklmagpkbaaGreatDoorChecked
import Derived.WalkKit
import Derived.WalkLawsBesides
import Derived.WalkSpells
import Derived.WideShapes
import Ieee.Arith
import Derived.Test.YtmfjcklmagpkbaaGreatDoorS00
import Derived.Test.YtmfjcklmagpkbaaGreatDoorS01
import Derived.Test.YtmfjcklmagpkbaaGreatDoorS03
namespace Go.Proofs.YtmfjcklmagpkbaaGreatDoor
open Go.RowKit
/-- a list of values behind a slice -/
def Vls (w : World) (d : Nat) (l : List VT) (v : Value) : Prop :=
  ∃ p cap, v = .slice p l.length cap ∧ l.length ≤ 140737488355328 ∧ ∀ i, i < l.length → ∃ g off, p = some ⟨g, off, none⟩ ∧ g < w.heap.size ∧ ∃ ds, ValAt w d (l.getD i noVT) ds ∧ ∀ j, j < 6 → w.cell? ⟨g, off + i * 6 + j, none⟩ = ds[j]?
theorem Vls.kept {w w' : World} {d : Nat} {l : List VT} {v : Value} (h : Vls w d l v) (hB : Below w.heap.size w w') : Vls w' d l v := by
  obtain ⟨p, cap, h1, h2, h3⟩ := h
  refine ⟨p, cap, h1, h2, fun i hi => ?_⟩
  obtain ⟨g, off, k1, k2, ds, k3, k4⟩ := h3 i hi
  exact ⟨g, off, k1, Nat.lt_of_lt_of_le k2 hB.size, ds, k3.kept hB, fun j hj => (hB.cell (p := ⟨g, off + i * 6 + j, none⟩) k2).trans (k4 j hj)⟩
/-- the cells of a list of values -/
def GotV (w : World) (l : List VT) (xs : List Value) : Prop := xs.length = l.length * 6 ∧ ∀ i, i < l.length → ∃ d ds, ValAt w d (l.getD i noVT) ds ∧ ∀ j, j < 6 → xs[i * 6 + j]? = ds[j]?
theorem GotV.nil (w : World) : GotV w [] [] := ⟨rfl, fun i hi => by simp at hi⟩
theorem GotV.append {w : World} {l m : List VT} {xs ys : List Value} (h : GotV w l xs) (k : GotV w m ys) : GotV w (l ++ m) (xs ++ ys) := by
  refine ⟨by rw [List.length_append, List.length_append, h.1, k.1, Nat.add_mul], fun i hi => ?_⟩
  by_cases hl : i < l.length
  · obtain ⟨d, ds, h1, h2⟩ := h.2 i hl
    refine ⟨d, ds, by rw [show (l ++ m).getD i noVT = l.getD i noVT by simp [List.getD, List.getElem?_append_left hl]]; exact h1, fun j hj => ?_⟩
    rw [List.getElem?_append_left (by rw [h.1]; omega)]
    exact h2 j hj
  · simp only [List.length_append] at hi
    obtain ⟨d, ds, h1, h2⟩ := k.2 (i - l.length) (by omega)
    refine ⟨d, ds, by rw [show (l ++ m).getD i noVT = m.getD (i - l.length) noVT by simp [List.getD, List.getElem?_append_right (by omega : l.length ≤ i)]]; exact h1, fun j hj => ?_⟩
    rw [List.getElem?_append_right (by rw [h.1]; omega), ← h2 j hj]
    congr 1
    rw [h.1]; omega
theorem zero_VTb : (Tryz.prog.info? 28).map (fun i => (i.zero, i.size, i.bytes)) = some (some (.agg #[.int .i64 0, .int .i64 0, .float .f64 0, .string ⟨#[]⟩, .slice none 0 0, .slice none 0 0]), 6, 88) := by kernel_rfl
theorem six_one {w : World} {d : Nat} {v : VT} {ds : Array Value} (h : ValAt w d v ds) {j : Nat} (hj : j < 6) : ∃ u, ds[j]? = some u ∧ u.oneCell' = true := by
  obtain ⟨q, r, s, u, rfl⟩ := h.sixS
  match j, hj with
  | 0, _ => exact ⟨_, rfl, rfl⟩
  | 1, _ => exact ⟨_, rfl, rfl⟩
  | 2, _ => exact ⟨_, rfl, rfl⟩
  | 3, _ => exact ⟨_, rfl, rfl⟩
  | 4, _ => exact ⟨_, rfl, rfl⟩
  | 5, _ => exact ⟨_, rfl, rfl⟩
theorem Vls.cells {w : World} {d : Nat} {l : List VT} {a : Addr} {n c : Nat} (h : Vls w d l (.slice (some a) n c)) : n = l.length ∧ ∃ xs, GotV w l xs ∧ (∀ u ∈ xs, u.oneCell' = true) ∧ ∀ j u, xs[j]? = some u → a.block < w.heap.size ∧ w.cell? (a.add j) = some u := by
  obtain ⟨p, cap, h1, h2, h3⟩ := h
  simp only [Value.slice.injEq] at h1
  obtain ⟨rfl, rfl, rfl⟩ := h1
  refine ⟨rfl, ?_⟩
  obtain ⟨xs, k1, k2⟩ := list_of undef (l.length * 6) (fun k u => (a.block < w.heap.size ∧ w.cell? (a.add k) = some u) ∧ u.oneCell' = true) (fun k hk => by
    obtain ⟨g, off, e1, e2, ds, e3, e4⟩ := h3 (k / 6) (by omega)
    obtain ⟨u, f1, f2⟩ := six_one e3 (j := k % 6) (by omega)
    simp only [Option.some.injEq] at e1
    subst e1
    refine ⟨u, ⟨e2, ?_⟩, f2⟩
    rw [Go.WideShapes.add_plain, show off + k = off + k / 6 * 6 + k % 6 by omega, e4 _ (by omega), f1])
  have hk : ∀ j u, xs[j]? = some u → j < l.length * 6 ∧ xs.getD j undef = u := fun j u hu => by
    have := (List.getElem?_eq_some_iff.1 hu).1
    exact ⟨by omega, by simp [List.getD, hu]⟩
  refine ⟨xs, ⟨k1, fun i hi => ?_⟩, fun u hu => ?_, fun j u hu => ?_⟩
  · obtain ⟨g, off, e1, e2, ds, e3, e4⟩ := h3 i hi
    refine ⟨d, ds, e3, fun j hj => ?_⟩
    simp only [Option.some.injEq] at e1
    subst e1
    have hlt : i * 6 + j < xs.length := by omega
    have h4 := (k2 (i * 6 + j) (by omega)).1.2
    rw [Go.WideShapes.add_plain, ← Nat.add_assoc, e4 j hj] at h4
    rw [h4, List.getElem?_eq_getElem hlt]
    simp [List.getD, hlt]
  · obtain ⟨j, hj⟩ := List.getElem?_of_mem hu
    obtain ⟨q1, q2⟩ := hk j u hj
    have := (k2 j q1).2
    rwa [q2] at this
  · obtain ⟨q1, q2⟩ := hk j u hu
    have := (k2 j q1).1
    rwa [q2] at this
theorem vappend {w0 w : World} {d : Nat} {l : List VT} {x : Value} (hB : Below w0.heap.size w0 w) (hv : Vls w0 d l x) {g0 cap0 n : Nat} {xs : List Value} (hown : w.ownsRow w0.heap.size 28 6 (.slice (some ⟨g0, 0, none⟩) n cap0) n xs) (hn : n + l.length ≤ 1000000) (ty : TypeId) :
    ∃ g cap w' ys, (Builtin.append_ #[26, 26] ty #[.slice (some ⟨g0, 0, none⟩) n cap0, x]).run Tryz.prog w = .ok (.slice (some ⟨g, 0, none⟩) (n + l.length) cap) w' ∧ w'.ownsRow w0.heap.size 28 6 (.slice (some ⟨g, 0, none⟩) (n + l.length) cap) (n + l.length) (xs ++ ys) ∧ Below w0.heap.size w0 w' ∧ GotV w0 l ys := by
  have hz := zero_VTb
  cases hi : Tryz.prog.info? 28 with
  | none => rw [hi] at hz; cases hz
  | some i =>
    rw [hi] at hz
    simp only [Option.map_some, Option.some.injEq, Prod.mk.injEq] at hz
    obtain ⟨hz, hs, hby⟩ := hz
    obtain ⟨p, cap, rfl, hl, hit⟩ := id hv
    cases p with
    | none =>
      have h0 : l.length = 0 := by
        rcases Nat.eq_zero_or_pos l.length with h | h
        · exact h
        · obtain ⟨g, off, e, _⟩ := hit 0 h
          cases e
      have hl0 : l = [] := List.eq_nil_of_length_eq_zero h0
      subst hl0
      have hnc : n ≤ cap0 := by
        rcases hown.2 with ⟨h, _⟩ | ⟨g, c, cur, h, _, _, h2, _⟩
        · cases h
        · cases h; exact h2
      have hr := run_append_room_src (P := Tryz.prog) w 26 26 ty 28 i Tryz.underlying26 hi g0 0 n cap0 (.slice none 0 cap) 0 [] (Src.ofNil w Tryz.underlying26 cap) (by omega) (by simp) (by simp)
      exact ⟨g0, cap0, w, [], hr, by simpa using hown, hB, GotV.nil _⟩
    | some a =>
      obtain ⟨_, ys, k1, k2, k3⟩ := hv.cells
      obtain ⟨v', w', hr, q1, q2, q3, _⟩ := run_append_own_at (P := Tryz.prog) w w0.heap.size 26 ty 28 i _ 6 88 Tryz.underlying26 hi hz hs hby rfl (by omega) _ n xs hown a l.length cap ys k1.1 (fun j u hu => (hB.cell (p := a.add j) (by rw [show (a.add j).block = a.block by unfold Addr.add; split <;> rfl]; exact (k3 j u hu).1)).trans (k3 j u hu).2) k2 (by unfold maxLen; omega) (by omega) hB.size
      have hform : ∃ g c, v' = .slice (some ⟨g, 0, none⟩) (n + l.length) c := by
        rcases q1.2 with ⟨h, _⟩ | ⟨g, c, cur, h, _⟩
        · exact absurd (q3.1 h).1 (by simp)
        · exact ⟨g, c, h⟩
      obtain ⟨g, c, rfl⟩ := hform
      exact ⟨g, c, w', ys, hr, q1, hB.grown q2 hB.size (fun k hk => (hown.lt k hk).1), k1⟩
theorem wpList_vappend {ops : Array Oper} {rest : List Oper} {o : Oper} {a : Act} {Q : Exit → Act → World → Prop} (hgd : o.guard = none) (s x : Operand)
    (ho : o.op = .call { callee := .builtin .append, args := #[s, x], argTypes := #[26, 26] })
    {w0 w : World} {d : Nat} {l : List VT} {xv : Value} {g0 cap0 n : Nat} {xs : List Value} (hs : a.eval s = .slice (some ⟨g0, 0, none⟩) n cap0) (hx : a.eval x = xv) (hB : Below w0.heap.size w0 w) (hv : Vls w0 d l xv)
    (hown : w.ownsRow w0.heap.size 28 6 (.slice (some ⟨g0, 0, none⟩) n cap0) n xs) (hn : n + l.length ≤ 1000000)
    (h : ∀ g cap w' ys, w'.ownsRow w0.heap.size 28 6 (.slice (some ⟨g, 0, none⟩) (n + l.length) cap) (n + l.length) (xs ++ ys) → Below w0.heap.size w0 w' → GotV w0 l ys → wpList Tryz.prog ops Q rest (a.put o.dst (.slice (some ⟨g, 0, none⟩) (n + l.length) cap)) w') : wpList Tryz.prog ops Q (o :: rest) a w :=
  wpList_plain hgd fun _ hK => by
    obtain ⟨g, cap, w', ys, hr, h1, h2, h3⟩ := vappend hB hv hown hn o.type
    unfold Oper.wp execOp
    simp only [ho, resolve, invoke, builtin, Sem.run_bind, Sem.run_pure, Result.andThen_ok, List.map_toArray, List.map_cons, List.map_nil, hs, hx, hr]
    exact hK _ _ (h g cap w' ys h1 h2 h3)
/-- an item of such a row, in whatever later world -/
theorem got_item {w0 w x : World} {l : List VT} {g cap base n : Nat} {xs : List Value} (hown : w.ownsRow base 28 6 (.slice (some ⟨g, 0, none⟩) n cap) n xs) (hg : GotV w0 l xs) (hn : n = l.length) (hB : Below w.heap.size w x) {i : Nat} (hi : i < n) :
    ∃ d ds, ValAt w0 d (l.getD i noVT) ds ∧ ∀ j, j < 6 → x.cell? ⟨g, i * 6 + j, none⟩ = ds[j]? := by
  obtain ⟨d, ds, h1, h2⟩ := hg.2 i (by omega)
  refine ⟨d, ds, h1, fun j hj => ?_⟩
  rcases hown.2 with ⟨h, _⟩ | ⟨g', c, cur, h, _, hc, _, _, _, ht⟩
  · cases h
  · cases h
    rw [← h2 j hj, ← ht, List.getElem?_take_of_lt (by omega), hB.cell (p := ⟨g, i * 6 + j, none⟩) (lt_of_block hc), Lib.cell_of_heap hc, Array.getElem?_toList]
end Go.Proofs.YtmfjcklmagpkbaaGreatDoor
