/-
  Le2 in one text.
-/
import Derived.Below
import Derived.BigFrame
import Derived.BigQuiet
import Derived.ChangeArms
import Derived.DataReads
import Derived.Deep.AppendLies
import Derived.Deep.AppendSrc
import Derived.Deep.Cut
import Derived.Deep.DeepCutAuto
import Derived.Deep.MidRow
import Derived.Deep.QuietTactic
import Derived.Deep.RegionHeld3
import Derived.Deep.RegionWith
import Derived.Defers
import Derived.Handy
import Derived.IntWalk
import Derived.KernelRfl
import Derived.Laws.Bits64b
import Derived.Laws.FloatBits
import Derived.Laws.Unary
import Derived.Lib.AtoiAll
import Derived.Lib.Builder
import Derived.Lib.Bytealg
import Derived.Lib.Bytes
import Derived.Lib.ConvBytes
import Derived.Lib.FrozenHead2
import Derived.Lib.Hide
import Derived.Lib.IndexMore
import Derived.Lib.ItoaNum
import Derived.Lib.MinMax
import Derived.Lib.OthersKept
import Derived.Lib.ParseIntB
import Derived.Lib.UnsafeStr
import Derived.LoopTactic
import Derived.OneCell
import Derived.OwnWalk
import Derived.ProofKit
import Derived.Recover
import Derived.RegionTactic
import Derived.Scope
import Derived.Shelf.Abstract
import Derived.SizedLaws
import Derived.StillTailTactics
import Derived.Tactics
import Derived.Tactics2
import Derived.Test.YtkbcdlabfbonoaaGreatDoorChecked
import Derived.Test.YtkbcdlabfbonoaaGreatDoorEv3
import Derived.WalkKit
import Derived.WalkLawsBesides
import Derived.WalkSpells
import Derived.WideShapes
import Ieee.Arith
import Derived.Test.YtkbcdlabfbonoaaGreatDoorS09
import Derived.Test.YtkbcdlabfbonoaaGreatDoorS20
namespace Go.Proofs.YtkbcdlabfbonoaaGreatDoor
open Go.RowKit
theorem zero_ARb : (Tryz.prog.info? 47).map (fun i => (i.zero, i.size, i.bytes)) = some (some (.agg #[.int .i64 0, .int .i64 0]), 2, 16) := by kernel_rfl
theorem PairsAt.cells {w : World} {l : List (Int × Int)} {a : Addr} {n c : Nat} (h : PairsAt w l (.slice (some a) n c)) : n = l.length ∧ ∃ xs : List Value, xs.length = l.length * 2 ∧ (∀ i x, l[i]? = some x → xs[i * 2]? = some (.int .i64 x.1) ∧ xs[i * 2 + 1]? = some (.int .i64 x.2)) ∧ (∀ u ∈ xs, u.oneCell' = true) ∧ ∀ j u, xs[j]? = some u → a.block < w.heap.size ∧ w.cell? (a.add j) = some u := by
  obtain ⟨p, cap, h1, h2, h3⟩ := h
  simp only [Value.slice.injEq] at h1
  obtain ⟨rfl, rfl, rfl⟩ := h1
  refine ⟨rfl, ?_⟩
  obtain ⟨xs, k1, k2⟩ := list_of undef (l.length * 2) (fun k u => (a.block < w.heap.size ∧ w.cell? (a.add k) = some u) ∧ ∃ x, l[k / 2]? = some x ∧ u = .int .i64 (if k % 2 = 0 then x.1 else x.2)) (fun k hk => by
    have hlt : k / 2 < l.length := by omega
    obtain ⟨g, off, e1, e2, e3, e4⟩ := h3 (k / 2) _ (List.getElem?_eq_getElem hlt)
    simp only [Option.some.injEq] at e1
    subst e1
    refine ⟨_, ⟨e2, ?_⟩, _, List.getElem?_eq_getElem hlt, rfl⟩
    rw [Go.WideShapes.add_plain]
    by_cases hm : k % 2 = 0
    · rw [if_pos hm, ← e3]; congr 2; omega
    · rw [if_neg hm, ← e4]; congr 2; omega)
  have hk : ∀ j u, xs[j]? = some u → j < l.length * 2 ∧ xs.getD j undef = u := fun j u hu => by
    have := (List.getElem?_eq_some_iff.1 hu).1
    exact ⟨by omega, by simp [List.getD, hu]⟩
  refine ⟨xs, k1, fun i x hx => ?_, fun u hu => ?_, fun j u hu => ?_⟩
  · have hi := (List.getElem?_eq_some_iff.1 hx).1
    have q0 := (k2 (i * 2) (by omega)).2
    have q1 := (k2 (i * 2 + 1) (by omega)).2
    obtain ⟨x0, a0, b0⟩ := q0
    obtain ⟨x1, a1, b1⟩ := q1
    rw [show i * 2 / 2 = i by omega, hx] at a0
    rw [show (i * 2 + 1) / 2 = i by omega, hx] at a1
    cases a0; cases a1
    rw [if_pos (by omega)] at b0
    rw [if_neg (by omega)] at b1
    constructor
    · rw [← b0, List.getElem?_eq_getElem (by omega)]; simp [List.getD, show i * 2 < xs.length by omega]
    · rw [← b1, List.getElem?_eq_getElem (by omega)]; simp [List.getD, show i * 2 + 1 < xs.length by omega]
  · obtain ⟨j, hj⟩ := List.getElem?_of_mem hu
    obtain ⟨q1, q2⟩ := hk j u hj
    obtain ⟨x, _, hx⟩ := (k2 j q1).2
    rw [q2] at hx
    rw [hx]; rfl
  · obtain ⟨q1, q2⟩ := hk j u hu
    have := (k2 j q1).1
    rwa [q2] at this
theorem pappend {w0 w : World} {l : List (Int × Int)} {x : Value} (hB : Below w0.heap.size w0 w) (hv : PairsAt w0 l x) {g0 cap0 : Nat} (hown : w.ownsRow w0.heap.size 47 2 (.slice (some ⟨g0, 0, none⟩) 0 cap0) 0 []) (hn : l.length ≤ 1000000) (ty : TypeId) :
    ∃ v' w', (Builtin.append_ #[22, 22] ty #[.slice (some ⟨g0, 0, none⟩) 0 cap0, x]).run Tryz.prog w = .ok v' w' ∧ PairsAt w' l v' ∧ Below w0.heap.size w0 w' := by
  have hz := zero_ARb
  cases hi : Tryz.prog.info? 47 with
  | none => rw [hi] at hz; cases hz
  | some i =>
    rw [hi] at hz
    simp only [Option.map_some, Option.some.injEq, Prod.mk.injEq] at hz
    obtain ⟨hz, hs, hby⟩ := hz
    obtain ⟨p, cap, rfl, hl, hit⟩ := id hv
    cases p with
    | none =>
      have hl0 : l = [] := by
        cases l with
        | nil => rfl
        | cons x l =>
          obtain ⟨g, off, e, _⟩ := hit 0 x rfl
          cases e
      subst hl0
      have hr := run_append_room_src (P := Tryz.prog) w 22 22 ty 47 i Tryz.underlying22 hi g0 0 0 cap0 (.slice none 0 cap) 0 [] (Src.ofNil w Tryz.underlying22 cap) (by omega) (by simp) (by simp)
      exact ⟨_, w, hr, ⟨_, cap0, rfl, by simp, fun i x h => by simp at h⟩, hB⟩
    | some a =>
      obtain ⟨_, ys, k1, k0, k2, k3⟩ := hv.cells
      obtain ⟨v', w', hr, q1, q2, q3, _⟩ := run_append_own_at (P := Tryz.prog) w w0.heap.size 22 ty 47 i _ 2 16 Tryz.underlying22 hi hz hs hby rfl (by omega) _ 0 [] hown a l.length cap ys k1 (fun j u hu => (hB.cell (p := a.add j) (by rw [show (a.add j).block = a.block by unfold Addr.add; split <;> rfl]; exact (k3 j u hu).1)).trans (k3 j u hu).2) k2 (by unfold maxLen; omega) (by omega) hB.size
      have hform : ∃ g c, v' = .slice (some ⟨g, 0, none⟩) (0 + l.length) c := by
        rcases q1.2 with ⟨h, _⟩ | ⟨g, c, cur, h, _⟩
        · exact absurd (q3.1 h).1 (by simp)
        · exact ⟨g, c, h⟩
      obtain ⟨g, c, rfl⟩ := hform
      refine ⟨_, w', hr, ⟨_, c, by rw [Nat.zero_add], hl, fun i x hx => ?_⟩, hB.grown q2 hB.size (fun k hk => (hown.lt k hk).1)⟩
      obtain ⟨h0, h1⟩ := k0 i x hx
      refine ⟨g, 0, rfl, (q1.lt g rfl).2, ?_, ?_⟩
      · have := World.ownsRow.cells (g := g) q1 rfl (i * 2) _ (by simpa using h0)
        rw [Go.WideShapes.add_plain] at this
        exact this
      · have := World.ownsRow.cells (g := g) q1 rfl (i * 2 + 1) _ (by simpa using h1)
        rw [Go.WideShapes.add_plain] at this
        exact this
theorem wpList_pappend {ops : Array Oper} {rest : List Oper} {o : Oper} {a : Act} {Q : Exit → Act → World → Prop} (hgd : o.guard = none) (s x : Operand)
    (ho : o.op = .call { callee := .builtin .append, args := #[s, x], argTypes := #[22, 22] })
    {w0 w : World} {l : List (Int × Int)} {xv : Value} {g0 cap0 : Nat} (hs : a.eval s = .slice (some ⟨g0, 0, none⟩) 0 cap0) (hx : a.eval x = xv) (hB : Below w0.heap.size w0 w) (hv : PairsAt w0 l xv)
    (hown : w.ownsRow w0.heap.size 47 2 (.slice (some ⟨g0, 0, none⟩) 0 cap0) 0 []) (hn : l.length ≤ 1000000)
    (h : ∀ v' w', PairsAt w' l v' → Below w0.heap.size w0 w' → wpList Tryz.prog ops Q rest (a.put o.dst v') w') : wpList Tryz.prog ops Q (o :: rest) a w :=
  wpList_plain hgd fun _ hK => by
    obtain ⟨v', w', hr, h1, h2⟩ := pappend hB hv hown hn o.type
    unfold Oper.wp execOp
    simp only [ho, resolve, invoke, builtin, Sem.run_bind, Sem.run_pure, Result.andThen_ok, List.map_toArray, List.map_cons, List.map_nil, hs, hx, hr]
    exact hK _ _ (h v' w' h1 h2)
end Go.Proofs.YtkbcdlabfbonoaaGreatDoor
